/-
  Plain Lean: how far runs of bytes go, where a word, a Ml, a sign ends. Nothing of the program. Conditions: none.
 
  The byte classes of package lex, and what its small scanning methods return. Conditions: those of each theorem.
 
  The scanner's steps of package lex: passing blanks and comments, and the ends of words, numbers and signs. Conditions: those of each theorem.
 
  Package lex: Num, Reg, Kept, Name by what they answer. Conditions: the string's size at most maxLen.
 
  Package lex: Name by what it answers. Condition: the string's size at most maxLen.
 
  Plain Lean: the tokens of a source. Nothing of the program. Conditions: none.
 
  Package lex: the scanner's token and next, and fault. Conditions: the source has at most 16384 bytes.
 
  Package lex: the scanner's next. Conditions: the source has at most 16384 bytes.
 
  append of elements to a slice of the call's own, with where the array then lies: in its old block or in the next new one. Conditions: those of the laws.
 
  A range over a function whose iterator keeps state in memory: a law for the caller, by footprints (lists of blocks). Conditions: those of the law.
 
  Package lex: fault, the list of all tokens, and the iterator tokens. Conditions: the source has at most 16384 bytes.
 
  Package lex: the iterator tokens yields all tokens of the source. Conditions: the source has at most 16384 bytes.
 
  Package lex: Lex. Conditions: none.
 
  Plain Lean: the tokens of the rest of a source, byte by byte. Nothing of the program. Conditions: none.
 
  Plain Lean: what a source that is one name, register, keyword or Ml is lexed as. Nothing of the program. Conditions: none.
-/
import Derived.Test.YtcpehikcegoojaaGreatDoorVcK
import Derived.Deep.LoopGhost
import Derived.Handy
import Derived.OwnWalkIn
import Derived.Lib.AppendStr
import Derived.RangeFuncNested
import Derived.RangeFuncBound
import Derived.RangeFuncCalls
import Derived.RangeFuncLeaves
import Derived.Shelf.Abstract
import Derived.Shelf.RegionOpen
import Derived.TacticsInMore
import Derived.LoopNIn
import Derived.LoopIn
set_option linter.unusedSimpArgs false
set_option linter.unusedVariables false
namespace Go.Proofs.YtcpehikcegoojaaGreatDoor
set_option maxRecDepth 100000
def cls (n:Int):Int:=
 if 97≤n∧n≤122∨65≤n∧n≤90 then 3
 else if 48≤n∧n≤57 then 4
 else if n=32∨n=9 then 1
 else if n=10 then 2
 else if n=95 then 5
 else if n=35 then 7
 else if n=61∨n=43∨n=45∨n=94∨n=38∨n=124∨n=33∨n=40∨n=41∨n=58∨n=60 then 6
 else 0
def Ej (n:Int):Bool:=cls n == 3 || cls n == 4 || cls n == 5
def ext (p:Int→Bool) (s:ByteArray):Nat→Nat→Nat
 | 0,i=>i
 | f+1,i=>if h:i < s.size then (if p s[i].toNat then ext p s f (i+1) else i) else i
def J6 (p:Int→Bool) (s:ByteArray) (i:Nat):Nat:=ext p s (s.size - i) i
theorem QW {p:Int→Bool} {s:ByteArray} {i:Nat} (h:s.size≤i):J6 p s i=i:=by
 unfold J6;rw [Nat.sub_eq_zero_of_le h];rfl
theorem Qg {p:Int→Bool} {s:ByteArray} {i:Nat} (h:i < s.size) (hp:p s[i].toNat=true):J6 p s i=J6 p s (i+1):=by
 unfold J6
 obtain ⟨f,hf⟩:∃ f,s.size - i=f+1:=⟨s.size - i - 1,by omega⟩
 rw [hf,show s.size - (i+1)=f from by omega]
 simp [ext,h,hp]
theorem QB {p:Int→Bool} {s:ByteArray} {i:Nat} (h:i < s.size) (hp:p s[i].toNat=false):J6 p s i=i:=by
 unfold J6
 obtain ⟨f,hf⟩:∃ f,s.size - i=f+1:=⟨s.size - i - 1,by omega⟩
 rw [hf]
 simp [ext,h,hp]
theorem XiJ (p:Int→Bool) (s:ByteArray):∀ f i,i≤ext p s f i
 | 0,i=>Nat.le_refl _
 | f+1,i=>by
   unfold ext;split
   · split
     · exact Nat.le_trans (by omega) (XiJ p s f (i+1))
     · exact Nat.le_refl _
   · exact Nat.le_refl _
theorem XiH (p:Int→Bool) (s:ByteArray):∀ f i,i≤s.size→ext p s f i≤s.size
 | 0,i,h=>h
 | f+1,i,h=>by
   unfold ext;split
   · split
     · exact XiH p s f (i+1) (by omega)
     · exact h
   · exact h
theorem EJ (p:Int→Bool) (s:ByteArray) (i:Nat):i≤J6 p s i:=XiJ _ _ _ _
theorem LK (p:Int→Bool) (s:ByteArray) (i:Nat) (h:i≤s.size):J6 p s i≤s.size:=XiH _ _ _ _ h
def QE (s:ByteArray) (k:Nat):Nat:=
 let j:=J6 (fun n=>cls n == 1) s k
 if h:j < s.size then (if cls s[j].toNat == 7 then J6 (fun n=>cls n != 2) s j else j) else j
def Cn (s:ByteArray) (k:Nat):Nat:=J6 Ej s (k+1)
def Qx (n:Int):Bool:=cls n == 4
def XeA (s:ByteArray) (k:Nat):Nat:=J6 Qx s (k+1)
def Lq (s:ByteArray) (k:Nat):Bool:=
 if h:k+1 < s.size then ((s[k].toNat:Int) == 61 || (s[k].toNat:Int) == 33) && (s[k+1].toNat:Int) == 61 else false
def NS (s:ByteArray) (k:Nat):Nat:=if Lq s k then k+2 else k+1
theorem isDig_iff {n:Int}:Qx n=true ↔ 48≤n∧n≤57:=by
 unfold Qx cls;rw [beq_iff_eq]
 constructor
 · intro h;repeat' split at h
   all_goals omega
 · intro h;rw [if_neg (by omega),if_pos h]
def keptL:List (List UInt8):=[[116,101,115,116],[105,110,105,116],[116,104,114,101,97,100],[115,111,109,101],[110,111,110,101],[97,108,108],[97,99,113],[114,101,108],[115,119,97,112],[102,101,116,99,104],[99,97,115],[102,101,110,99,101],[108,111,97,100,115],[115,116,111,114,101,115],[115,107,105,112],[105,102],[116,114,117,101]]
def XeJ (s:ByteArray):Bool:=keptL.any (s.toList == ·)
def Nr (s:ByteArray):Nat→Nat
 | 0=>0
 | i+1=>10 * Nr s i+(if h:i < s.size then s[i].toNat - 48 else 0)
def Nv (s:ByteArray):Bool:=
 if h:1≤s.size∧s.size≤3 then !((s[0].toNat:Int) == 48 && decide (1 < s.size)) && J6 Qx s 0 == s.size && decide (Nr s s.size≤255) else false
def XcZ (s:ByteArray):Nat:=if Nv s then Nr s s.size else 0
theorem Cs {s:ByteArray} {i:Nat} (h:i < s.size) (hd:Qx s[i].toNat=true):(Nr s (i+1):Int)=10 * (Nr s i:Int)+((s[i].toNat:Int) - 48):=by
 have:=isDig_iff.1 hd
 rw [Nr,dif_pos h];omega
def Ew (s:ByteArray):Nat→Nat
 | 0=>0
 | i+1=>Ew s i+(if h:0 < i∧i < s.size then (if Qx s[i].toNat then 1 else 0) else 0)
theorem Dz (s:ByteArray):∀ i,Ew s i≤i - 1
 | 0=>Nat.le_refl _
 | 1=>by simp [Ew]
 | i+2=>by
   have:=Dz s (i+1)
   rw [Ew];split
   · split <;> omega
   · omega
theorem Xd7 (s:ByteArray):∀ f i,1≤i→i+f=s.size→((J6 Qx s i=s.size∧Ew s i=i - 1) ↔ Ew s s.size=s.size - 1)
 | 0,i,h1,hi=>by
   have:i=s.size:=by omega
   subst this;rw [QW (Nat.le_refl _)];simp
 | f+1,i,h1,hi=>by
   have ih:=Xd7 s f (i+1) (by omega) (by omega)
   have hl:i < s.size:=by omega
   by_cases hd:Qx s[i].toNat=true
   · rw [Qg hl hd]
     have:Ew s (i+1)=Ew s i+1:=by rw [Ew,dif_pos ⟨by omega,hl⟩,if_pos hd]
     rw [← ih,this]
     have:=Dz s i
     constructor
     · rintro ⟨a,b⟩;exact ⟨a,by omega⟩
     · rintro ⟨a,b⟩;exact ⟨a,by omega⟩
   · have hd':Qx s[i].toNat=false:=by simpa using hd
     rw [QB hl hd']
     have:Ew s (i+1)=Ew s i:=by rw [Ew,dif_pos ⟨by omega,hl⟩,if_neg hd];rfl
     have:=Dz s i
     rw [← ih]
     constructor
     · rintro ⟨a,b⟩;omega
     · rintro ⟨a,b⟩;omega
def Dd (s:ByteArray):Bool:=J6 Qx s 1 == s.size
theorem XcF {s:ByteArray} (h:1≤s.size):Dd s=(Ew s s.size == s.size - 1):=by
 have:=Xd7 s (s.size - 1) 1 (Nat.le_refl _) (by omega)
 have h0:Ew s 1=0:=by simp [Ew]
 rw [h0] at this
 unfold Dd
 rw [Bool.eq_iff_iff,beq_iff_eq,beq_iff_eq,← this]
 simp
def Ny (s:ByteArray):Bool:=
 if h:1≤s.size∧s.size≤16 then cls s[0].toNat == 3 && !XeJ s && J6 Ej s 1 == s.size && !((s[0].toNat:Int) == 114 && decide (1 < s.size) && Dd s) else false
section
open Go.RowKit
set_option maxHeartbeats 2000000 in
theorem JC (n:Int) (w:World) :
   Calls Tryz.prog 138 #[.int .u8 n] w fun e w'=>e = .returned (.int .i64 (cls n))∧w=w':=by
 go_enter Tryz.func138,Tryz.ntmps138
 go_wp2
 all_goals
   go_ret
   refine ⟨Q3 ?_,rfl⟩
   try simp only [beq_iff_eq,beq_eq_false_iff_ne] at *
   unfold cls
   repeat' split
   all_goals omega
theorem MJ (n:Int) (w:World) (c:Bool) (hc:Ej n=c) :
   Calls Tryz.prog 140 #[.int .u8 n] w fun e w'=>e = .returned (.bool c)∧w=w':=by
 have Hc:=Lib.hid hc
 clear hc
 go_enter Tryz.func140,Tryz.ntmps140
 go_wp2_with (go_at_call 138;refine (JC _ _).mono ?_;rintro e w' ⟨rfl,rfl⟩)
 all_goals
   go_ret
   refine ⟨Qk ?_,rfl⟩
   rw [← Hc.out];simp [Ej, *]
def Scan (w:World) (b:Nat) (s:ByteArray) (k:Nat) (o:Bool):Prop:=Blk w b [.string s,.int .i64 k,.bool o] 204
theorem Scan.at {w:World} {b:Nat} {s:ByteArray} {k:Nat} {o:Bool} (h:Scan w b s k o) (j:Nat):Scan (w.setCell ⟨b,1,none⟩ (.int .i64 j)) b s j o:=Blk.set h 1 _
theorem Scan.drewN {w:World} {b:Nat} {s:ByteArray} {k:Nat} {o:Bool} (h:Scan w b s k o) (n:Nat):Scan (w.drewN n) b s k o:=h
theorem Scan.at' {w:World} {b:Nat} {s:ByteArray} {k:Nat} {o:Bool} (h:Scan w b s k o):Scan (w.setCell ⟨b,1,none⟩ (.int .i64 (k+1))) b s (k+1) o:=by
 have:=h.at (k+1);rwa [Int.natCast_add] at this
theorem JX (b:Nat) (s:ByteArray) (k:Nat) (o:Bool) (w:World) (hS:Scan w b s k o) (c:Bool) (hc:decide (s.size≤k)=c) :
   Calls Tryz.prog 164 #[.pointer (some ⟨b,0,none⟩)] w fun e w'=>e = .returned (.bool c)∧∃ n,w'=w.drewN n:=by
 have c0:=hS.cell 0 rfl
 have c1:=hS.cell 1 rfl
 have Hc:=Lib.hid hc
 clear hc hS
 go_enter Tryz.func164,Tryz.ntmps164
 go_wp2
 go_quiet (fail)
 go_wp2
 go_ret
 exact ⟨Qk (by rw [← Hc.out]),_,rfl⟩
theorem E5 (b:Nat) (s:ByteArray) (k:Nat) (o:Bool) (w:World) (hS:Scan w b s k o) (c:Bool) (hc:(if h:k < s.size then cls s[k].toNat == 2 else true)=c) :
   Calls Tryz.prog 162 #[.pointer (some ⟨b,0,none⟩)] w fun e w'=>e = .returned (.bool c)∧∃ n,w'=w.drewN n:=by
 have c0:=hS.cell 0 rfl
 have c1:=hS.cell 1 rfl
 have hS':=hS
 by_cases h:k < s.size
 · rw [dif_pos h] at hc
   have hd:decide (s.size≤k)=false:=by simp;omega
   have Hc:=Lib.hid hc
   clear hc hS
   go_enter Tryz.func162,Tryz.ntmps162
   go_wp2
   go_quiet ((first | (go_at_call 164;exact Calls.quiet_of (JX b s k o _ (hS'.drewN _) false hd)) | (go_at_call 138;exact Qc (JC _ _))))
   go_wp2
   go_ret
   exact ⟨Qk (by rw [← Hc.out]),_,rfl⟩
 · rw [dif_neg h] at hc
   subst hc
   have hd:decide (s.size≤k)=true:=by simp;omega
   clear hS
   go_enter Tryz.func162,Tryz.ntmps162
   go_wp2
   go_quiet ((go_at_call 164;exact Calls.quiet_of (JX b s k o _ (hS'.drewN _) true hd)))
   go_wp2
   go_ret
   exact ⟨rfl,_,rfl⟩
end
section
open Go.RowKit
theorem XbG {s:ByteArray} {k j:Nat} (h:J6 (fun n=>cls n == 1) s k=j) :
   QE s k=if h:j < s.size then (if cls s[j].toNat == 7 then J6 (fun n=>cls n != 2) s j else j) else j:=by
 subst h;rfl
set_option maxHeartbeats 1000000 in
theorem XdP (b:Nat) (s:ByteArray) (k:Nat) (o:Bool) (w:World) (hS:Scan w b s k o) (hs:s.size≤16384) (hk:k≤s.size) :
   Calls Tryz.prog 161 #[.pointer (some ⟨b,0,none⟩)] w fun e w'=>e = .returned (.tuple #[])∧Scan w' b s (QE s k) o∧w.grownBy w' (some b):=by
 go_enter Tryz.func161,Tryz.ntmps161
 go_wp2
 go_loopg [] (s.size - k) (fun m wr=>∃ j,Hid (m=s.size - j)∧k≤j∧j≤s.size∧Scan wr b s j o∧w.grownBy wr (some b)∧Hid (J6 (fun n=>cls n == 1) s k=J6 (fun n=>cls n == 1) s j))
 case atStart=>exact ⟨k,Lib.hid rfl,Nat.le_refl _,hk,hS,Q9 _ _,Lib.hid rfl⟩
 case round=>
   obtain ⟨j,hm,hj1,hj2,hSj,hg,he⟩:=hrel
   have c0:=hSj.cell 0 rfl
   have c1:=hSj.cell 1 rfl
   have f1:=hSj.frozen 1
   clear hS
   by_cases hj:j < s.size
   · have hd:decide (s.size≤j)=false:=by simp;omega
     by_cases h1:cls s[j].toNat=1
     · have h1':(cls ↑s[j].toNat == 1)=true:=by simpa using h1
       have H1:=Lib.hid h1
       clear h1
       go_wp2
       go_quiet ((first | (go_at_call 164;first | with_reducible exact Qw (JX b s j o _ (hSj.drewN _) false hd) | with_reducible exact Calls.quiet_of (JX b s j o _ (hSj.drewN _) false hd) | with_reducible exact JO (JX b s j o _ (hSj.drewN _) false hd) | with_reducible exact Qc (JX b s j o _ (hSj.drewN _) false hd)) | (go_at_call 138;first | with_reducible exact Qw (JC _ _) | with_reducible exact Calls.quiet_of (JC _ _) | with_reducible exact JO (JC _ _) | with_reducible exact Qc (JC _ _))))
       go_wp2
       go_roundg (s.size - (j+1))
       case measure=>rw [hm.out];omega
       case rel=>exact ⟨j+1,Lib.hid rfl,by omega,by omega,Scan.at' (hSj.drewN _),Qp (JW hg _) (.inl rfl) _,Lib.hid (he.out.trans (Qg hj h1'))⟩
     · have h1':(cls ↑s[j].toNat == 1)=false:=by simpa using h1
       have hp:=XbG (he.out.trans (QB hj h1'))
       rw [dif_pos hj] at hp
       by_cases h7:cls s[j].toNat=7
       · have h7':(cls ↑s[j].toNat == 7)=true:=by simpa using h7
         have h7n:(cls ↑s[j].toNat != 7)=false:=by simpa using h7
         rw [if_pos h7'] at hp
         have Hp:=Lib.hid hp
         clear h1 h7 hp
         go_wp2
         go_quiet ((first | (go_at_call 164;first | with_reducible exact Qw (JX b s j o _ (hSj.drewN _) false hd) | with_reducible exact Calls.quiet_of (JX b s j o _ (hSj.drewN _) false hd) | with_reducible exact JO (JX b s j o _ (hSj.drewN _) false hd) | with_reducible exact Qc (JX b s j o _ (hSj.drewN _) false hd)) | (go_at_call 138;first | with_reducible exact Qw (JC _ _) | with_reducible exact Calls.quiet_of (JC _ _) | with_reducible exact JO (JC _ _) | with_reducible exact Qc (JC _ _))))
         go_wp2
         go_quiet ((first | (go_at_call 164;first | with_reducible exact Qw (JX b s j o _ (hSj.drewN _) false hd) | with_reducible exact Calls.quiet_of (JX b s j o _ (hSj.drewN _) false hd) | with_reducible exact JO (JX b s j o _ (hSj.drewN _) false hd) | with_reducible exact Qc (JX b s j o _ (hSj.drewN _) false hd)) | (go_at_call 138;first | with_reducible exact Qw (JC _ _) | with_reducible exact Calls.quiet_of (JC _ _) | with_reducible exact JO (JC _ _) | with_reducible exact Qc (JC _ _))))
         go_wp2
         go_loopg [] (s.size - j) (fun m wi=>∃ i,Hid (m=s.size - i)∧j≤i∧i≤s.size∧Scan wi b s i o∧w.grownBy wi (some b)∧Hid (J6 (fun n=>cls n != 2) s j=J6 (fun n=>cls n != 2) s i))
         case atStart=>exact ⟨j,Lib.hid rfl,Nat.le_refl _,hj2,(hSj.drewN _).drewN _,JW (JW hg _) _,Lib.hid rfl⟩
         case round=>
           obtain ⟨i,hm,hi1,hi2,hSi,hgi,hei⟩:=hrel
           clear c0 c1 f1 hSj
           have c0:=hSi.cell 0 rfl
           have c1:=hSi.cell 1 rfl
           have f1:=hSi.frozen 1
           by_cases h2:(if h:i < s.size then cls s[i].toNat == 2 else true)=false
           · have hi:i < s.size:=by
               by_cases hi:i < s.size
               · exact hi
               · rw [dif_neg hi] at h2;cases h2
             have h2':(cls ↑s[i].toNat != 2)=true:=by rw [dif_pos hi] at h2;simpa using h2
             have He:=Lib.hid h2'
             have H2:=Lib.hid h2
             clear h2 h2'
             go_wp2_with (go_at_call 162;refine (E5 b s i o _ hSi false H2.out).mono ?_;rintro e w' ⟨rfl,nn,rfl⟩)
             go_roundg (s.size - (i+1))
             case measure=>rw [hm.out];omega
             case rel=>exact ⟨i+1,Lib.hid rfl,by omega,by omega,Scan.at' (hSi.drewN _),Qp (JW hgi _) (.inl rfl) _,Lib.hid (hei.out.trans (Qg hi He.out))⟩
           · have h2':(if h:i < s.size then cls s[i].toNat == 2 else true)=true:=by simpa using h2
             have hr:J6 (fun n=>cls n != 2) s i=i:=by
               by_cases hi:i < s.size
               · rw [dif_pos hi] at h2';exact QB hi (by simpa using h2')
               · exact QW (by omega)
             have Hr:=Lib.hid hr
             have H2:=Lib.hid h2'
             clear h2 h2' hr
             go_wp2_with (go_at_call 162;refine (E5 b s i o _ hSi true H2.out).mono ?_;rintro e w' ⟨rfl,nn,rfl⟩)
             go_returns
             exact ⟨rfl,by rw [Hp.out,hei.out,Hr.out];exact hSi.drewN _,JW hgi _⟩
       · have h7':(cls ↑s[j].toNat == 7)=false:=by simpa using h7
         have h7n:(cls ↑s[j].toNat != 7)=true:=by simpa using h7
         rw [if_neg (by simp [h7])] at hp
         have Hp:=Lib.hid hp
         clear h1 h7 hp
         go_wp2
         go_quiet ((first | (go_at_call 164;first | with_reducible exact Qw (JX b s j o _ (hSj.drewN _) false hd) | with_reducible exact Calls.quiet_of (JX b s j o _ (hSj.drewN _) false hd) | with_reducible exact JO (JX b s j o _ (hSj.drewN _) false hd) | with_reducible exact Qc (JX b s j o _ (hSj.drewN _) false hd)) | (go_at_call 138;first | with_reducible exact Qw (JC _ _) | with_reducible exact Calls.quiet_of (JC _ _) | with_reducible exact JO (JC _ _) | with_reducible exact Qc (JC _ _))))
         go_wp2
         go_quiet ((first | (go_at_call 164;first | with_reducible exact Qw (JX b s j o _ (hSj.drewN _) false hd) | with_reducible exact Calls.quiet_of (JX b s j o _ (hSj.drewN _) false hd) | with_reducible exact JO (JX b s j o _ (hSj.drewN _) false hd) | with_reducible exact Qc (JX b s j o _ (hSj.drewN _) false hd)) | (go_at_call 138;first | with_reducible exact Qw (JC _ _) | with_reducible exact Calls.quiet_of (JC _ _) | with_reducible exact JO (JC _ _) | with_reducible exact Qc (JC _ _))))
         go_wp2
         go_returns
         exact ⟨rfl,by rw [Hp.out];exact (hSj.drewN _).drewN _,JW (JW hg _) _⟩
   · have hd:decide (s.size≤j)=true:=by simp;omega
     have hp:=XbG (he.out.trans (QW (by omega)))
     rw [dif_neg hj] at hp
     have Hp:=Lib.hid hp
     clear hp
     go_wp2
     go_quiet ((first | (go_at_call 164;first | with_reducible exact Qw (JX b s j o _ (hSj.drewN _) true hd) | with_reducible exact Calls.quiet_of (JX b s j o _ (hSj.drewN _) true hd) | with_reducible exact JO (JX b s j o _ (hSj.drewN _) true hd) | with_reducible exact Qc (JX b s j o _ (hSj.drewN _) true hd)) | (go_at_call 138;first | with_reducible exact Qw (JC _ _) | with_reducible exact Calls.quiet_of (JC _ _) | with_reducible exact JO (JC _ _) | with_reducible exact Qc (JC _ _))))
     go_wp2
     go_quiet ((first | (go_at_call 164;first | with_reducible exact Qw (JX b s j o _ (hSj.drewN _) true hd) | with_reducible exact Calls.quiet_of (JX b s j o _ (hSj.drewN _) true hd) | with_reducible exact JO (JX b s j o _ (hSj.drewN _) true hd) | with_reducible exact Qc (JX b s j o _ (hSj.drewN _) true hd)) | (go_at_call 138;first | with_reducible exact Qw (JC _ _) | with_reducible exact Calls.quiet_of (JC _ _) | with_reducible exact JO (JC _ _) | with_reducible exact Qc (JC _ _))))
     go_wp2
     go_returns
     exact ⟨rfl,by rw [Hp.out];exact (hSj.drewN _).drewN _,JW (JW hg _) _⟩
set_option maxHeartbeats 1000000 in
theorem Xcv (b:Nat) (s:ByteArray) (k:Nat) (o:Bool) (w:World) (hS:Scan w b s k o) (hs:s.size≤16384) (hk:k < s.size) :
   Calls Tryz.prog 167 #[.pointer (some ⟨b,0,none⟩)] w fun e w'=>e = .returned (.int .i64 (Cn s k))∧w=w':=by
 have c0:=hS.cell 0 rfl
 have c1:=hS.cell 1 rfl
 go_enter Tryz.func167,Tryz.ntmps167
 go_wp2
 go_loopg [3] (s.size - (k+1)) (fun m v wr=>∃ j:Nat,Hid (m=s.size - j)∧k+1≤j∧j≤s.size∧w=wr∧v = .int .i64 j∧Hid (J6 Ej s (k+1)=J6 Ej s j))
 case atStart=>exact ⟨k+1,Lib.hid rfl,Nat.le_refl _,by omega,rfl,by go_num,Lib.hid rfl⟩
 case round=>
   obtain ⟨j,hm,hj1,hj2,rfl,rfl,he⟩:=hrel
   by_cases hj:j < s.size
   · by_cases hg:Ej s[j].toNat=true
     · have Hg:=Lib.hid hg
       skip
       clear hg
       go_wp2_with (go_at_call 140;refine (MJ _ _ true Hg.out).mono ?_;rintro e w' ⟨rfl,rfl⟩)
       go_roundg (s.size - (j+1))
       case measure=>rw [hm.out];omega
       case rel=>exact ⟨j+1,Lib.hid rfl,by omega,by omega,rfl,by go_num,Lib.hid (he.out.trans (Qg hj Hg.out))⟩
     · have hg':Ej s[j].toNat=false:=by simpa using hg
       have Hg:=Lib.hid hg'
       skip
       clear hg hg'
       go_wp2_with (go_at_call 140;refine (MJ _ _ false Hg.out).mono ?_;rintro e w' ⟨rfl,rfl⟩)
       go_returns
       exact ⟨Q3 (by unfold Cn;rw [he.out,QB hj Hg.out]),rfl⟩
   · go_wp2
     go_returns
     exact ⟨Q3 (by unfold Cn;rw [he.out,QW (by omega)]),rfl⟩
set_option maxHeartbeats 1000000 in
theorem XeB (b:Nat) (s:ByteArray) (k:Nat) (o:Bool) (w:World) (hS:Scan w b s k o) (hs:s.size≤16384) (hk:k < s.size) :
   Calls Tryz.prog 168 #[.pointer (some ⟨b,0,none⟩)] w fun e w'=>e = .returned (.int .i64 (XeA s k))∧w=w':=by
 have c0:=hS.cell 0 rfl
 have c1:=hS.cell 1 rfl
 go_enter Tryz.func168,Tryz.ntmps168
 go_wp2
 go_loopg [3] (s.size - (k+1)) (fun m v wr=>∃ j:Nat,Hid (m=s.size - j)∧k+1≤j∧j≤s.size∧w=wr∧v = .int .i64 j∧Hid (J6 Qx s (k+1)=J6 Qx s j))
 case atStart=>exact ⟨k+1,Lib.hid rfl,Nat.le_refl _,by omega,rfl,by go_num,Lib.hid rfl⟩
 case round=>
   obtain ⟨j,hm,hj1,hj2,rfl,rfl,he⟩:=hrel
   by_cases hj:j < s.size
   · by_cases hg:Qx s[j].toNat=true
     · have Hg:=Lib.hid hg
       have Hx:(cls ↑s[j].toNat == 4)=_:=Hg.out
       clear hg
       go_wp2_with (go_at_call 138;refine (JC _ _).mono ?_;rintro e w' ⟨rfl,rfl⟩)
       go_roundg (s.size - (j+1))
       case measure=>rw [hm.out];omega
       case rel=>exact ⟨j+1,Lib.hid rfl,by omega,by omega,rfl,by go_num,Lib.hid (he.out.trans (Qg hj Hg.out))⟩
     · have hg':Qx s[j].toNat=false:=by simpa using hg
       have Hg:=Lib.hid hg'
       have Hx:(cls ↑s[j].toNat == 4)=_:=Hg.out
       clear hg hg'
       go_wp2_with (go_at_call 138;refine (JC _ _).mono ?_;rintro e w' ⟨rfl,rfl⟩)
       go_returns
       exact ⟨Q3 (by unfold XeA;rw [he.out,QB hj Hg.out]),rfl⟩
   · go_wp2
     go_returns
     exact ⟨Q3 (by unfold XeA;rw [he.out,QW (by omega)]),rfl⟩
set_option maxHeartbeats 1000000 in
theorem XcL (b:Nat) (s:ByteArray) (k:Nat) (o:Bool) (w:World) (hS:Scan w b s k o) (hs:s.size≤16384) (hk:k < s.size) :
   Calls Tryz.prog 166 #[.pointer (some ⟨b,0,none⟩)] w fun e w'=>e = .returned (.int .i64 (NS s k))∧∃ n,w'=w.drewN n:=by
 have c0:=hS.cell 0 rfl
 have c1:=hS.cell 1 rfl
 go_enter Tryz.func166,Tryz.ntmps166
 go_wp2
 go_quiet (fail)
 go_wp2
 all_goals
   go_returns
   refine ⟨Q3 ?_,_,rfl⟩
   unfold NS Lq
   first
     | (rw [dif_pos (by omega)];simp [*];done)
     | (rw [dif_pos (by omega)];simp [*];omega)
     | (rw [dif_neg (by omega)];simp)
     | (split <;> simp [*] <;> omega)
     | (split <;> simp [*])
end
section
open Go.RowKit
theorem NI {a b:Int} {c d:Bool} (h:a=b) (g:c=d):Ending.returned (.tuple #[.int .u8 a,.bool c]) = .returned (.tuple #[.int .u8 b,.bool d]):=by rw [h,g]
set_option maxHeartbeats 1000000 in
theorem Xjh (s:ByteArray) (w:World) (hs:s.size≤maxLen) (c:Bool) (hc:Nv s=c) :
   Calls Tryz.prog 165 #[.string s] w fun e w'=>e = .returned (.tuple #[.int .u8 (XcZ s),.bool c])∧w=w':=by
 unfold maxLen at hs
 have Hc:=Lib.hid hc
 clear hc
 by_cases h:1≤s.size∧s.size≤3
 · by_cases hz:(s[0].toNat:Int)=48∧1 < s.size
   · have hno:Nv s=false:=by unfold Nv;rw [dif_pos h];simp [hz.1,hz.2]
     have Hn:=Lib.hid hno
     obtain ⟨h1,h2⟩:=h
     obtain ⟨hz1,hz2⟩:=hz
     have hz1':((s[0].toNat:Int) == 48)=true:=by simpa using hz1
     clear hno hz1
     go_enter Tryz.func165,Tryz.ntmps165
     go_wp2
     go_returns
     exact ⟨NI (by simp [XcZ,Hn.out]) (by rw [← Hc.out,Hn.out]),rfl⟩
   · have hgo:Nv s=(J6 Qx s 0 == s.size && decide (Nr s s.size≤255)):=by
       unfold Nv;rw [dif_pos h]
       rw [show ((s[0].toNat:Int) == 48 && decide (1 < s.size))=false from by
         rw [Bool.and_eq_false_iff];by_cases h0:(s[0].toNat:Int)=48
         · exact .inr (by simp;omega)
         · exact .inl (by simpa using h0)]
       simp
     have Hg:=Lib.hid hgo
     clear hgo
     obtain ⟨h1,h2⟩:=h
     have hp:0 < s.size:=h1
     have hz':¬ (s[0].toNat:Int)=48∨s.size≤1:=by
       by_cases h0:(s[0].toNat:Int)=48
       · exact .inr (by omega)
       · exact .inl h0
     clear hz
     rcases hz' with hz | hz
     all_goals
       try (have hz1:((s[0].toNat:Int) == 48)=false:=by simpa using hz)
       go_enter Tryz.func165,Tryz.ntmps165
       go_wp2
       all_goals
         go_loopg [4,26] s.size (fun m v i wr=>∃ j:Nat,Hid (m=s.size - j)∧j≤s.size∧w=wr∧v = .int .i64 (Nr s j)∧i = .int .i64 j∧Hid (J6 Qx s 0=J6 Qx s j)∧(Nr s j:Int)≤999∧(j≤2→(Nr s j:Int)≤99)∧(j≤1→(Nr s j:Int)≤9)∧(j≤0→(Nr s j:Int)≤0))
         case atStart=>exact ⟨0,Lib.hid rfl,Nat.zero_le _,rfl,rfl,rfl,Lib.hid rfl,by simp [Nr],by simp [Nr],by simp [Nr],by simp [Nr]⟩
         case round=>
           obtain ⟨j,hm,hj,rfl,rfl,rfl,he,b3,b2,b1,b0⟩:=hrel
           by_cases hlt:j < s.size
           · have b2':=b2 (by omega)
             by_cases hd:Qx s[j].toNat=true
             · have hd':=isDig_iff.1 hd
               obtain ⟨d1,d2⟩:=hd'
               have hcl:(cls ↑s[j].toNat != 4)=false:=by have:(cls ↑s[j].toNat == 4)=true:=hd;simpa using this
               have Hv:=Lib.hid (Cs hlt hd)
               have Hb:Hid ((j≤1→(Nr s j:Int)≤9)∧(j≤0→(Nr s j:Int)≤0)):=Lib.hid ⟨b1,b0⟩
               have Hd:=Lib.hid hd
               clear b3 b2 b1 b0 hd
               go_wp2_with (go_at_call 138;refine (JC _ _).mono ?_;rintro e w' ⟨rfl,rfl⟩)
               go_roundg (s.size - (j+1))
               case measure=>rw [hm.out];omega
               case rel=>exact ⟨j+1,Lib.hid rfl,by omega,rfl,by rw [Hv.out],by go_num,Lib.hid (he.out.trans (Qg hlt Hd.out)),by rw [Hv.out];omega,fun _=>by rw [Hv.out];have:=Hb.out.1 (by omega);omega,fun _=>by rw [Hv.out];have:=Hb.out.2 (by omega);omega,fun _=>by omega⟩
             · have hd':Qx s[j].toNat=false:=by simpa using hd
               have hcl:(cls ↑s[j].toNat != 4)=true:=by have:(cls ↑s[j].toNat == 4)=false:=hd';simpa using this
               have hno:Nv s=false:=by
                 rw [Hg.out,he.out,QB hlt hd']
                 simp;omega
               have Hn:=Lib.hid hno
               clear b3 b2 b1 b0 hd hd' hno
               go_wp2_with (go_at_call 138;refine (JC _ _).mono ?_;rintro e w' ⟨rfl,rfl⟩)
               go_returns
               exact ⟨NI (by simp [XcZ,Hn.out]) (by rw [← Hc.out,Hn.out]),rfl⟩
           · have hjs:j=s.size:=by omega
             have hgo:Nv s=decide (Nr s s.size≤255):=by
               rw [Hg.out,he.out,QW (by omega)];simp [hjs]
             have Hn:=Lib.hid hgo
             have Hj:=Lib.hid hjs
             clear hgo hjs b2 b1 b0
             by_cases hv:(Nr s j:Int)≤255
             · go_wp2
               go_returns
               refine ⟨NI ?_ ?_,rfl⟩
               · rw [XcZ,Hn.out,← Hj.out,decide_eq_true (by omega)];simp
               · rw [← Hc.out,Hn.out,← Hj.out];simp;omega
             · go_wp2
               go_returns
               refine ⟨NI ?_ ?_,rfl⟩
               · rw [XcZ,Hn.out,← Hj.out,decide_eq_false (by omega)];simp
               · rw [← Hc.out,Hn.out,← Hj.out];simp;omega
 · have hno:Nv s=false:=by unfold Nv;rw [dif_neg h]
   have Hn:=Lib.hid hno
   clear hno
   have h':s.size < 1∨3 < s.size:=by omega
   clear h
   rcases h' with h | h
   all_goals
     go_enter Tryz.func165,Tryz.ntmps165
     go_wp2
     go_returns
     exact ⟨NI (by simp [XcZ,Hn.out]) (by rw [← Hc.out,Hn.out]),rfl⟩
set_option maxHeartbeats 2000000 in
theorem Xd3 (s:ByteArray) (w:World) (c:Bool) (hc:XeJ s=c) :
   Calls Tryz.prog 139 #[.string s] w fun e w'=>e = .returned (.bool c)∧w=w':=by
 have Hc:=Lib.hid hc
 clear hc
 go_enter Tryz.func139,Tryz.ntmps139
 go_wp2
 all_goals
   go_returns
   refine ⟨Qk ?_,rfl⟩
   rw [← Hc.out]
   first | (simp only [XeJ,keptL,List.any_cons,List.any_nil, *];done) | (simp [XeJ,keptL, *];done) | (simp_all [XeJ,keptL];done)
end
section
open Go.RowKit
set_option maxHeartbeats 1000000 in
theorem XhG (s:ByteArray) (w:World) (hs:s.size≤maxLen) (c:Bool) (hc:Ny s=c) :
   Calls Tryz.prog 130 #[.string s] w fun e w'=>e = .returned (.bool c)∧w=w':=by
 unfold maxLen at hs
 have Hc:=Lib.hid hc
 clear hc
 by_cases h:1≤s.size∧s.size≤16
 · have hno:Ny s=(cls s[0].toNat == 3 && !XeJ s && J6 Ej s 1 == s.size && !((s[0].toNat:Int) == 114 && decide (1 < s.size) && (Ew s s.size == s.size - 1))):=by
     rw [← XcF h.1];unfold Ny;rw [dif_pos h]
   have Hn:=Lib.hid hno
   clear hno
   obtain ⟨h1,h2⟩:=h
   have hp:0 < s.size:=h1
   by_cases hl:cls s[0].toNat=3
   · have hl':(cls ↑s[0].toNat == 3)=true:=by simpa using hl
     have hl'':(cls ↑s[0].toNat != 3)=false:=by simpa using hl
     by_cases hk:XeJ s=true
     · have Hl:=Lib.hid hl'
       have Hk:=Lib.hid hk
       clear hl' hk hl
       go_enter Tryz.func130,Tryz.ntmps130
       go_wp2_with (first | (go_at_call 138;refine (JC _ _).mono ?_;rintro e w' ⟨rfl,rfl⟩) | (go_at_call 139;refine (Xd3 _ _ true Hk.out).mono ?_;rintro e w' ⟨rfl,rfl⟩))
       go_returns
       exact ⟨Qk (by rw [← Hc.out,Hn.out,Hk.out];simp),rfl⟩
     · have hk':XeJ s=false:=by simpa using hk
       have Hl:=Lib.hid hl'
       have Hk:=Lib.hid hk'
       clear hl' hk hk' hl
       go_enter Tryz.func130,Tryz.ntmps130
       go_wp2_with (first | (go_at_call 138;refine (JC _ _).mono ?_;rintro e w' ⟨rfl,rfl⟩) | (go_at_call 139;refine (Xd3 _ _ false Hk.out).mono ?_;rintro e w' ⟨rfl,rfl⟩))
       go_loopg [3,4] (s.size - 1) (fun m d i wr=>∃ j:Nat,Hid (m=s.size - j)∧1≤j∧j≤s.size∧w=wr∧d = .int .i64 (Ew s j)∧i = .int .i64 j∧Hid (J6 Ej s 1=J6 Ej s j)∧Ew s j≤16)
       case atStart=>exact ⟨1,Lib.hid rfl,by omega,by omega,rfl,by simp [Ew],rfl,Lib.hid rfl,by simp [Ew]⟩
       case round=>
         obtain ⟨j,hm,hj1,hj2,rfl,rfl,rfl,he,hdb⟩:=hrel
         by_cases hlt:j < s.size
         · by_cases hg:Ej s[j].toNat=true
           · have Hg:=Lib.hid hg
             clear hg
             by_cases hd:Qx s[j].toNat=true
             · have hcl:(cls ↑s[j].toNat == 4)=true:=hd
               have Hs:Hid (Ew s (j+1)=Ew s j+1):=Lib.hid (by rw [Ew,dif_pos ⟨by omega,hlt⟩,if_pos hd])
               clear hd
               go_wp2_with (first | (go_at_call 140;refine (MJ _ _ true Hg.out).mono ?_;rintro e w' ⟨rfl,rfl⟩) | (go_at_call 138;refine (JC _ _).mono ?_;rintro e w' ⟨rfl,rfl⟩))
               go_roundg (s.size - (j+1))
               case measure=>rw [hm.out];omega
               case rel=>exact ⟨j+1,Lib.hid rfl,by omega,by omega,rfl,by rw [Hs.out];go_num,by go_num,Lib.hid (he.out.trans (Qg hlt Hg.out)),by have:=Dz s (j+1);omega⟩
             · have hcl:(cls ↑s[j].toNat == 4)=false:=by simpa [Qx] using hd
               have Hs:Hid (Ew s (j+1)=Ew s j):=Lib.hid (by rw [Ew,dif_pos ⟨by omega,hlt⟩,if_neg hd];rfl)
               clear hd
               go_wp2_with (first | (go_at_call 140;refine (MJ _ _ true Hg.out).mono ?_;rintro e w' ⟨rfl,rfl⟩) | (go_at_call 138;refine (JC _ _).mono ?_;rintro e w' ⟨rfl,rfl⟩))
               go_roundg (s.size - (j+1))
               case measure=>rw [hm.out];omega
               case rel=>exact ⟨j+1,Lib.hid rfl,by omega,by omega,rfl,by rw [Hs.out],by go_num,Lib.hid (he.out.trans (Qg hlt Hg.out)),by have:=Dz s (j+1);omega⟩
           · have hg':Ej s[j].toNat=false:=by simpa using hg
             have hno:Ny s=false:=by
               rw [Hn.out,he.out,QB hlt hg',show (j == s.size)=false from by simp;omega];simp
             have Hno:=Lib.hid hno
             have Hg:=Lib.hid hg'
             clear hg hg' hno
             go_wp2_with (go_at_call 140;refine (MJ _ _ false Hg.out).mono ?_;rintro e w' ⟨rfl,rfl⟩)
             go_returns
             exact ⟨Qk (by rw [← Hc.out,Hno.out]),rfl⟩
         · have hjs:j=s.size:=by omega
           have hno:Ny s = !((s[0].toNat:Int) == 114 && decide (1 < s.size) && (Ew s j == s.size - 1)):=by
             rw [Hn.out,he.out,QW (by omega),Hl.out,Hk.out,hjs];simp
           have hdl:=Dz s j
           have Hno:=Lib.hid hno
           have Hj:=Lib.hid hjs
           clear hno hjs
           by_cases h0:(s[0].toNat:Int)=114
           · by_cases h1':Ew s j=0
             · have h1'':((Ew s j:Int) == 0)=true:=by simp [h1']
               have H0:Hid (((s[0].toNat:Int) == 114)=true):=Lib.hid (by simpa using h0)
               have H1:=Lib.hid h1'
               have h0':((s[0].toNat:Int) != 114)=false:=by simpa using h0
               clear h1' h0
               go_wp2
               go_returns
               refine ⟨Qk ?_,rfl⟩
               rw [← Hc.out,Hno.out,H0.out,H1.out]
               by_cases hh:1 < s.size
               · rw [show (0 == s.size - 1)=false from by simp;omega];simp
               · rw [decide_eq_false hh];simp
             · have h1'':((Ew s j:Int) == 0)=false:=by simpa using h1'
               have H0:Hid (((s[0].toNat:Int) == 114)=true):=Lib.hid (by simpa using h0)
               have h0':((s[0].toNat:Int) != 114)=false:=by simpa using h0
               clear h0
               go_wp2
               all_goals
                 go_returns
                 refine ⟨Qk ?_,rfl⟩
                 rw [← Hc.out,Hno.out,H0.out,show decide (1 < s.size)=true from by simp;omega]
                 rw [Bool.eq_iff_iff];simp;omega
           · have H0:Hid (((s[0].toNat:Int) == 114)=false):=Lib.hid (by simpa using h0)
             have h0':((s[0].toNat:Int) != 114)=true:=by simpa using h0
             clear h0
             go_wp2
             go_returns
             exact ⟨Qk (by rw [← Hc.out,Hno.out,H0.out];simp),rfl⟩
   · have hl':(cls ↑s[0].toNat != 3)=true:=by simpa using hl
     have hno:Ny s=false:=by rw [Hn.out,show (cls ↑s[0].toNat == 3)=false from by simpa using hl];simp
     have Hno:=Lib.hid hno
     clear hno hl
     go_enter Tryz.func130,Tryz.ntmps130
     go_wp2_with (go_at_call 138;refine (JC _ _).mono ?_;rintro e w' ⟨rfl,rfl⟩)
     go_returns
     exact ⟨Qk (by rw [← Hc.out,Hno.out]),rfl⟩
 · have hno:Ny s=false:=by unfold Ny;rw [dif_neg h]
   have Hn:=Lib.hid hno
   clear hno
   have h':s.size < 1∨16 < s.size:=by omega
   clear h
   rcases h' with h | h
   all_goals
     go_enter Tryz.func130,Tryz.ntmps130
     go_wp2
     go_returns
     exact ⟨Qk (by rw [← Hc.out,Hn.out]),rfl⟩
end
structure Tok where
 kind:Nat
 text:ByteArray
 pos:Nat
def Db (c:Int):Nat:=if c=3 then 1 else if c=4 then 2 else 3
def Nx (s:ByteArray) (k:Nat):Int:=if h:k < s.size then cls s[k].toNat else 2
def NG (s:ByteArray) (k:Nat):Nat:=if Nx s k=3 then Cn s k else if Nx s k=4 then XeA s k else NS s k
def MU (s:ByteArray) (k:Nat):Tok:=⟨Db (Nx s k),s.extract k (NG s k),k⟩
theorem EO (s:ByteArray) (k:Nat):k≤QE s k:=by
 unfold QE;simp only
 have h1:=EJ (fun n=>cls n == 1) s k
 split
 · split
   · exact Nat.le_trans h1 (EJ _ _ _)
   · exact h1
 · exact h1
theorem BC (s:ByteArray) (k:Nat) (h:k≤s.size):QE s k≤s.size:=by
 unfold QE;simp only
 have h1:=LK (fun n=>cls n == 1) s k h
 split
 · split
   · exact LK _ _ _ h1
   · exact h1
 · exact h1
theorem Xfn (s:ByteArray) (k:Nat) (h:k < s.size):NS s k≤s.size:=by
 unfold NS
 by_cases h':Lq s k=true
 · rw [if_pos h']
   by_cases hh:k+1 < s.size
   · omega
   · rw [Lq,dif_neg hh] at h';cases h'
 · rw [if_neg h'];omega
theorem Xan (s:ByteArray) (k:Nat) (h:k < s.size):NG s k≤s.size:=by
 unfold NG;split
 · exact LK _ _ _ h
 · split
   · exact LK _ _ _ h
   · exact Xfn s k h
theorem MT (s:ByteArray) (k:Nat):k < NG s k:=by
 unfold NG;split
 · exact EJ _ _ _
 · split
   · exact EJ _ _ _
   · unfold NS;split <;> omega
def QP (s:ByteArray):Nat→Nat→Bool→Option Tok × Nat × Bool
 | 0,k,o=>(none,k,o)
 | f+1,k,o=>
   if Nx s (QE s k) ≠ 2 then (some (MU s (QE s k)),NG s (QE s k),true)
   else if o then (some ⟨4,ByteArray.empty,QE s k⟩,min (QE s k+1) s.size,false)
   else if s.size≤QE s k then (none,min (QE s k+1) s.size,false)
   else QP s f (QE s k+1) false
theorem Xa3 {s:ByteArray} {k:Nat} (h:Nx s k ≠ 2):k < s.size:=by
 unfold Nx at h;split at h
 · assumption
 · exact absurd rfl h
def JV (t:Tok):Int:=
 if t.kind=1 then (if 16 < t.text.size then 42 else 0)
 else if t.kind=2 then (if Nv t.text then 0 else 41)
 else if t.kind=3 then (if Nx t.text 0=6 then 0 else 40)
 else 0
theorem XiV (s:ByteArray):∀ (n i:Nat) (r:List UInt8),s.size - i=n→ByteArray.toList.loop s i r=r.reverse++s.data.toList.drop i:=by
 intro n
 induction n with
 | zero=>intro i r h;unfold ByteArray.toList.loop;rw [if_neg (by omega),List.drop_eq_nil_of_le (by simp;show s.size≤i;omega)];simp
 | succ n ih=>
   intro i r h
   unfold ByteArray.toList.loop
   have hi:i < s.data.toList.length:=by simp;show i < s.size;omega
   rw [if_pos (by omega),ih (i+1) _ (by omega),List.drop_eq_getElem_cons hi]
   have:s.get! i=s.data.toList[i]:=by
     simp [ByteArray.get!,Array.getElem!_eq_getD]
     rw [Array.getElem?_eq_getElem (by simpa using hi)];rfl
   simp [this]
theorem L5 (s:ByteArray):s.toList=s.data.toList:=by
 unfold ByteArray.toList;rw [XiV s _ 0 [] rfl];simp
theorem Cx {s:ByteArray} (h:s.size=0):s.toList=[]:=by
 rw [L5];exact List.eq_nil_of_length_eq_zero (by simpa using h)
theorem ED {s:ByteArray} (h:0 < s.size):¬ s.toList=[]:=by
 rw [L5];intro h'
 have h2:s.data.toList.length=0:=by rw [h'];rfl
 have h3:s.data.size=0:=by simpa using h2
 have h4:s.size=0:=h3
 omega
theorem Mu {s:ByteArray} (h:0 < s.size):s.toList.isEmpty=false:=by
 cases hl:s.toList with
 | nil=>exact absurd hl (ED h)
 | cons=>rfl
section
open Go.RowKit
def Tok.val (t:Tok):Value:=.agg #[.int .u8 t.kind,.string t.text,.int .i64 t.pos]
theorem Scan.alloc {w:World} {b:Nat} {s:ByteArray} {k:Nat} {o:Bool} (h:Scan w b s k o) (x:Obj):Scan (w.alloc x) b s k o:=Blk.alloc (h:=h) x
theorem Scan.drew {w:World} {b:Nat} {s:ByteArray} {k:Nat} {o:Bool} (h:Scan w b s k o):Scan w.drew b s k o:=h
theorem Scan.other {w:World} {b:Nat} {s:ByteArray} {k:Nat} {o:Bool} (h:Scan w b s k o) (a:Addr) (hne:b ≠ a.block) (v:Value):Scan (w.setCell a v) b s k o:=Blk.setOther h a hne v
theorem Scan.open' {w:World} {b:Nat} {s:ByteArray} {k:Nat} {o:Bool} (h:Scan w b s k o) (x:Bool):Scan (w.setCell ⟨b,2,none⟩ (.bool x)) b s k x:=Blk.set (h:=h) 2 _
theorem Scan.lt {w:World} {b:Nat} {s:ByteArray} {k:Nat} {o:Bool} (h:Scan w b s k o):b < w.heap.size:=Blk.lt h
set_option maxHeartbeats 1000000 in
theorem Xff (b:Nat) (s:ByteArray) (k:Nat) (o:Bool) (w:World) (hS:Scan w b s k o) (hs:s.size≤16384) (hk:k < s.size) :
   Calls Tryz.prog 163 #[.pointer (some ⟨b,0,none⟩)] w fun e w'=>e = .returned (MU s k).val∧Scan w' b s (NG s k) o∧w.grownBy w' (some b):=by
 have c0:=hS.cell 0 rfl
 have c1:=hS.cell 1 rfl
 have f1:=hS.frozen 1
 have hlt:=hS.lt
 have hto:=Xan s k hk
 have hgt:=MT s k
 have hca:Nx s k=cls s[k].toNat:=by unfold Nx;rw [dif_pos hk]
 have S1:∀ x n,Scan ((w.alloc x).drewN n) b s k o:=fun x n=>Blk.alloc (h:=hS) x
 by_cases h3:cls s[k].toNat=3
 · have h3':(cls ↑s[k].toNat == 3)=true:=by simpa using h3
   have ht:NG s k=Cn s k:=by unfold NG;rw [hca,if_pos h3]
   have HT:=Lib.hid ht
   have HV:Hid (MU s k=⟨1,s.extract k (Cn s k),k⟩):=Lib.hid (by unfold MU Db;rw [ht,hca];rw [if_pos h3])
   rw [ht] at hto hgt
   clear ht hca
   go_enter Tryz.func163,Tryz.ntmps163
   go_wp2
   go_quiet ((first | (go_at_call 138;first | with_reducible exact Qw (JC _ _) | with_reducible exact Calls.quiet_of (JC _ _) | with_reducible exact JO (JC _ _) | with_reducible exact Qc (JC _ _))))
   go_wp2_with (go_at_call 167;refine (Xcv b s k o _ (S1 _ _) hs hk).mono ?_;rintro e w' ⟨rfl,rfl⟩)
   go_region
   go_wp2
   go_returns
   refine ⟨by rw [HV.out];rfl,?_,?_⟩
   · rw [HT.out];(repeat (first | with_reducible exact hS | with_reducible refine Scan.drew ?_ | with_reducible refine Scan.drewN ?_ _ | with_reducible refine Scan.alloc ?_ _ | refine Scan.other ?_ _ (Nat.ne_of_lt hlt) _ | refine Scan.at (k:=k) ?_ _ | refine Scan.at' ?_))
   · (repeat (first | with_reducible exact Q9 _ _ | with_reducible refine Nh ?_ | with_reducible refine JW ?_ _ | with_reducible refine QY ?_ _ | with_reducible refine Qp ?_ (by first | exact .inl rfl | exact .inr (Nat.le_refl _) | exact .inr (by simp)) _))
 · by_cases h4:cls s[k].toNat=4
   · have h3':(cls ↑s[k].toNat == 3)=false:=by simpa using h3
     have h4':(cls ↑s[k].toNat == 4)=true:=by simpa using h4
     have ht:NG s k=XeA s k:=by unfold NG;rw [hca,if_neg h3,if_pos h4]
     have HT:=Lib.hid ht
     have HV:Hid (MU s k=⟨2,s.extract k (XeA s k),k⟩):=Lib.hid (by unfold MU Db;rw [ht,hca];rw [if_neg h3,if_pos h4])
     rw [ht] at hto hgt
     clear ht hca
     go_enter Tryz.func163,Tryz.ntmps163
     go_wp2
     go_quiet ((first | (go_at_call 138;first | with_reducible exact Qw (JC _ _) | with_reducible exact Calls.quiet_of (JC _ _) | with_reducible exact JO (JC _ _) | with_reducible exact Qc (JC _ _))))
     go_wp2_with (go_at_call 168;refine (XeB b s k o _ (S1 _ _) hs hk).mono ?_;rintro e w' ⟨rfl,rfl⟩)
     go_region
     go_wp2
     go_returns
     refine ⟨by rw [HV.out];rfl,?_,?_⟩
     · rw [HT.out];(repeat (first | with_reducible exact hS | with_reducible refine Scan.drew ?_ | with_reducible refine Scan.drewN ?_ _ | with_reducible refine Scan.alloc ?_ _ | refine Scan.other ?_ _ (Nat.ne_of_lt hlt) _ | refine Scan.at (k:=k) ?_ _ | refine Scan.at' ?_))
     · (repeat (first | with_reducible exact Q9 _ _ | with_reducible refine Nh ?_ | with_reducible refine JW ?_ _ | with_reducible refine QY ?_ _ | with_reducible refine Qp ?_ (by first | exact .inl rfl | exact .inr (Nat.le_refl _) | exact .inr (by simp)) _))
   · have h3':(cls ↑s[k].toNat == 3)=false:=by simpa using h3
     have h4':(cls ↑s[k].toNat == 4)=false:=by simpa using h4
     have ht:NG s k=NS s k:=by unfold NG;rw [hca,if_neg h3,if_neg h4]
     have HT:=Lib.hid ht
     have HV:Hid (MU s k=⟨3,s.extract k (NS s k),k⟩):=Lib.hid (by unfold MU Db;rw [ht,hca];rw [if_neg h3,if_neg h4])
     rw [ht] at hto hgt
     clear ht hca
     go_enter Tryz.func163,Tryz.ntmps163
     go_wp2
     go_quiet ((first | (go_at_call 138;first | with_reducible exact Qw (JC _ _) | with_reducible exact Calls.quiet_of (JC _ _) | with_reducible exact JO (JC _ _) | with_reducible exact Qc (JC _ _))))
     go_wp2_with (go_at_call 166;refine (XcL b s k o _ (S1 _ _) hs hk).mono ?_;rintro e w' ⟨rfl,nn,rfl⟩)
     go_region
     go_wp2
     go_returns
     refine ⟨by rw [HV.out];rfl,?_,?_⟩
     · rw [HT.out];(repeat (first | with_reducible exact hS | with_reducible refine Scan.drew ?_ | with_reducible refine Scan.drewN ?_ _ | with_reducible refine Scan.alloc ?_ _ | refine Scan.other ?_ _ (Nat.ne_of_lt hlt) _ | refine Scan.at (k:=k) ?_ _ | refine Scan.at' ?_))
     · (repeat (first | with_reducible exact Q9 _ _ | with_reducible refine Nh ?_ | with_reducible refine JW ?_ _ | with_reducible refine QY ?_ _ | with_reducible refine Qp ?_ (by first | exact .inl rfl | exact .inr (Nat.le_refl _) | exact .inr (by simp)) _))
end
section
open Go.RowKit
set_option maxHeartbeats 4000000 in
theorem XhF (b:Nat) (s:ByteArray) (k:Nat) (o:Bool) (w:World) (hS:Scan w b s k o) (hs:s.size≤16384) (hk:k≤s.size) (f:Nat) (hf:s.size < f+k)
   (t:Option Tok) (k':Nat) (o':Bool) (hn:QP s f k o=(t,k',o')) :
   Calls Tryz.prog 159 #[.pointer (some ⟨b,0,none⟩)] w fun e w'=>e = .returned (.tuple #[(t.getD ⟨0,ByteArray.empty,0⟩).val,.bool t.isSome])∧Scan w' b s k' o'∧w.grownBy w' (some b):=by
 have hlt:=hS.lt
 go_enter Tryz.func159,Tryz.ntmps159
 go_wp2
 go_loopg [] f (fun m wr=>∃ (j:Nat) (oj:Bool),s.size < m+j∧j≤s.size∧Scan wr b s j oj∧w.grownBy wr (some b)∧Blk wr w.heap.size [.int .u8 0,.string ⟨#[]⟩,.int .i64 0] 187∧Hid (QP s m j oj=(t,k',o')))
 case atStart=>exact ⟨k,o,hf,hk,hS.alloc _,(by (repeat (first | with_reducible exact Q9 _ _ | with_reducible refine Nh ?_ | with_reducible refine JW ?_ _ | with_reducible refine QY ?_ _ | with_reducible refine Qp ?_ (by first | exact .inl rfl | exact .inr (Nat.le_refl _) | exact .inr (by simp)) _))),Blk.new _ _ _,Lib.hid hn⟩
 case round=>
   obtain ⟨j,oj,hfj,hj,hSj,hg,hR,hnj⟩:=hrel
   clear hS
   obtain ⟨m,rfl⟩:∃ m,gk=m+1:=⟨gk - 1,by omega⟩
   have hp1:=EO s j
   have hp2:=BC s j hj
   have hne:w.heap.size ≠ b:=by omega
   generalize hpj:QE s j=p at hp1 hp2
   by_cases hc:Nx s p=2
   · have ha:(if h:p < s.size then cls s[p].toNat == 2 else true)=true:=by
       unfold Nx at hc;split
       · rename_i h;rw [dif_pos h] at hc;simpa using hc
       · rfl
     have Ha:=Lib.hid ha
     have Hp:=Lib.hid hpj
     have Hn:Hid ((if oj then (some ⟨4,ByteArray.empty,p⟩,min (p+1) s.size,false) else if s.size≤p then (none,min (p+1) s.size,false) else QP s m (p+1) false)=(t,k',o')):=
       Lib.hid (by have:=hnj.out;rw [QP,hpj,if_neg (by simp [hc])] at this;exact this)
     clear ha hpj hc hnj hn
     go_wp2_with fail
     refine (XdP b s j oj _ hSj hs hj).mono ?_;rintro e w1 ⟨rfl,hS1,hg1⟩;rw [Hp.out] at hS1
     have hR1:=hR.grown hg1 (by simp;omega)
     have g1:=LM hg hg1
     clear hSj hg hR hg1
     go_wp2_with fail
     refine (E5 b s p oj _ hS1 true Ha.out).mono ?_;rintro e w2 ⟨rfl,n2,rfl⟩
     have hS2:=hS1.drewN n2
     have hR2:=hR1.drewN n2
     have g2:=JW g1 n2
     generalize w1.drewN n2=w2 at hS2 hR2 g2
     clear hS1 hR1 g1
     have c0:=hS2.cell 0 rfl
     have c1:=hS2.cell 1 rfl
     have c2:=hS2.cell 2 rfl
     have hne2:w.heap.size ≠ w2.heap.size:=by have:=hR2.lt;omega
     by_cases hl:s.size≤p
     · skip
       go_wp2_with fail
       refine (JX b s p oj _ (hS2.alloc _) true (by simpa using hl)).mono ?_;rintro e w3 ⟨rfl,n3,rfl⟩
       go_wp2_with fail
       generalize hW:World.drewN _ _=w4
       have hS4:Scan w4 b s p oj:=by rw [← hW];exact hS2.alloc _
       have hR4:Blk w4 w.heap.size [.int .u8 0,.string ⟨#[]⟩,.int .i64 0] 187:=by rw [← hW];exact hR2.alloc _
       have hT4:Blk w4 w2.heap.size [.int .u8 4,.string ⟨#[]⟩,.int .i64 p] 187:=by rw [← hW];exact Blk.new _ _ _
       have g4:w.grownBy w4 (some b):=by rw [← hW];exact JW (QY g2 _) _
       have hne3:w2.heap.size ≠ b:=by have:=hR2.lt;omega
       have HW:=Lib.hid hW
       clear hW hS2 hR2 g2 c0 c1 c2
       have c0:=hS4.cell 0 rfl
       have c1:=hS4.cell 1 rfl
       have c2:=hS4.cell 2 rfl
       have f1:=hS4.frozen 1
       have f2:=hS4.frozen 2
       have r0:=hR4.cell 0 rfl
       have r1:=hR4.cell 1 rfl
       have r2:=hR4.cell 2 rfl
       have q0:=hR4.frozen 0
       have q1:=hR4.frozen 1
       have q2:=hR4.frozen 2
       have t0:=hT4.cell 0 rfl
       have t1:=hT4.cell 1 rfl
       have t2:=hT4.cell 2 rfl
       have H4:=Lib.hid (⟨hS4,g4⟩:Scan w4 b s p oj∧w.grownBy w4 (some b))
       have Hl:=Lib.hid hl
       clear hS4 g4
       cases oj
       · go_region
         go_wp2
         refine bodyPost_ret (v:=.tuple #[.agg #[.int .u8 0,.string ⟨#[]⟩,.int .i64 0],.bool false]) (by simp [results,Tryz.results159,go_sem,r0,r1,r2]) rfl ?_
         have hn:=Hn.out
         have:=Hl.out
         simp only [Bool.false_eq_true,if_false,if_pos this,Prod.mk.injEq] at hn
         obtain ⟨rfl,rfl,rfl⟩:=hn
         obtain ⟨hS4,g4⟩:=H4.out
         refine ⟨rfl,?_,?_⟩
         · rw [show min (p+1) s.size=s.size from by omega]
           (repeat (first | with_reducible exact hS4 | with_reducible refine Scan.drew ?_ | with_reducible refine Scan.drewN ?_ _ | with_reducible refine Scan.alloc ?_ _ | refine Scan.other ?_ _ (Nat.ne_of_lt hlt) _ | refine Scan.open' (o:=false) ?_ _ | refine Scan.at (k:=p) ?_ _ | refine Scan.at' ?_))
         · (repeat (first | with_reducible exact Q9 _ _ | with_reducible refine Nh ?_ | with_reducible refine JW ?_ _ | with_reducible refine QY ?_ _ | with_reducible refine Qp ?_ (by first | exact .inl rfl | exact .inr (Nat.le_refl _) | exact .inr (by simp)) _ | with_reducible exact g4))
       · go_region
         go_wp2
         refine bodyPost_ret (v:=.tuple #[.agg #[.int .u8 4,.string ⟨#[]⟩,.int .i64 p],.bool true]) (by simp [results,Tryz.results159,go_sem,r0,r1,r2]) rfl ?_
         have hn:=Hn.out
         simp only [if_true,Prod.mk.injEq] at hn
         obtain ⟨rfl,rfl,rfl⟩:=hn
         obtain ⟨hS4,g4⟩:=H4.out
         have:=Hl.out
         refine ⟨rfl,?_,?_⟩
         · rw [show min (p+1) s.size=s.size from by omega]
           (repeat (first | with_reducible exact hS4 | with_reducible refine Scan.drew ?_ | with_reducible refine Scan.drewN ?_ _ | with_reducible refine Scan.alloc ?_ _ | refine Scan.other ?_ _ (Nat.ne_of_lt hlt) _ | refine Scan.open' (o:=true) ?_ _ | refine Scan.at (k:=p) ?_ _ | refine Scan.at' ?_))
         · (repeat (first | with_reducible exact Q9 _ _ | with_reducible refine Nh ?_ | with_reducible refine JW ?_ _ | with_reducible refine QY ?_ _ | with_reducible refine Qp ?_ (by first | exact .inl rfl | exact .inr (Nat.le_refl _) | exact .inr (by simp)) _ | with_reducible exact g4))
     · skip
       go_wp2_with fail
       refine (JX b s p oj _ (hS2.alloc _) false (by simpa using hl)).mono ?_;rintro e w3 ⟨rfl,n3,rfl⟩
       go_wp2_with fail
       generalize hW:World.drewN _ _=w4
       have hS4:Scan w4 b s p oj:=by rw [← hW];exact hS2.alloc _
       have hR4:Blk w4 w.heap.size [.int .u8 0,.string ⟨#[]⟩,.int .i64 0] 187:=by rw [← hW];exact hR2.alloc _
       have hT4:Blk w4 w2.heap.size [.int .u8 4,.string ⟨#[]⟩,.int .i64 p] 187:=by rw [← hW];exact Blk.new _ _ _
       have g4:w.grownBy w4 (some b):=by rw [← hW];exact JW (QY g2 _) _
       have hne3:w2.heap.size ≠ b:=by have:=hR2.lt;omega
       have HW:=Lib.hid hW
       clear hW hS2 hR2 g2 c0 c1 c2
       have c0:=hS4.cell 0 rfl
       have c1:=hS4.cell 1 rfl
       have c2:=hS4.cell 2 rfl
       have f1:=hS4.frozen 1
       have f2:=hS4.frozen 2
       have r0:=hR4.cell 0 rfl
       have r1:=hR4.cell 1 rfl
       have r2:=hR4.cell 2 rfl
       have q0:=hR4.frozen 0
       have q1:=hR4.frozen 1
       have q2:=hR4.frozen 2
       have t0:=hT4.cell 0 rfl
       have t1:=hT4.cell 1 rfl
       have t2:=hT4.cell 2 rfl
       have H4:=Lib.hid (⟨hS4,g4⟩:Scan w4 b s p oj∧w.grownBy w4 (some b))
       have Hl:=Lib.hid hl
       clear hS4 g4
       cases oj
       · go_region
         go_wp2
         go_roundg m
         case measure=>omega
         case rel=>
           have hn:=Hn.out
           have:=Hl.out
           simp only [Bool.false_eq_true,if_false,if_neg this] at hn
           obtain ⟨hS4,g4⟩:=H4.out
           refine ⟨p+1,false,by omega,by omega,?_,?_,?_,Lib.hid hn⟩
           · (repeat (first | with_reducible exact hS4 | with_reducible refine Scan.drew ?_ | with_reducible refine Scan.drewN ?_ _ | with_reducible refine Scan.alloc ?_ _ | refine Scan.other ?_ _ (Nat.ne_of_lt hlt) _ | refine Scan.open' (o:=false) ?_ _ | refine Scan.at (k:=p) ?_ _ | refine Scan.at' ?_))
           · (repeat (first | with_reducible exact Q9 _ _ | with_reducible refine Nh ?_ | with_reducible refine JW ?_ _ | with_reducible refine QY ?_ _ | with_reducible refine Qp ?_ (by first | exact .inl rfl | exact .inr (Nat.le_refl _) | exact .inr (by simp)) _ | with_reducible exact g4))
           · exact Blk.drew (Blk.setOther hR4 _ hne _)
       · go_region
         go_wp2
         refine bodyPost_ret (v:=.tuple #[.agg #[.int .u8 4,.string ⟨#[]⟩,.int .i64 p],.bool true]) (by simp [results,Tryz.results159,go_sem,r0,r1,r2]) rfl ?_
         have hn:=Hn.out
         simp only [if_true,Prod.mk.injEq] at hn
         obtain ⟨rfl,rfl,rfl⟩:=hn
         obtain ⟨hS4,g4⟩:=H4.out
         have:=Hl.out
         refine ⟨rfl,?_,?_⟩
         · rw [show min (p+1) s.size=p+1 from by omega]
           (repeat (first | with_reducible exact hS4 | with_reducible refine Scan.drew ?_ | with_reducible refine Scan.drewN ?_ _ | with_reducible refine Scan.alloc ?_ _ | refine Scan.other ?_ _ (Nat.ne_of_lt hlt) _ | refine Scan.open' (o:=true) ?_ _ | refine Scan.at (k:=p) ?_ _ | refine Scan.at' ?_))
         · (repeat (first | with_reducible exact Q9 _ _ | with_reducible refine Nh ?_ | with_reducible refine JW ?_ _ | with_reducible refine QY ?_ _ | with_reducible refine Qp ?_ (by first | exact .inl rfl | exact .inr (Nat.le_refl _) | exact .inr (by simp)) _ | with_reducible exact g4))
   · have hpl:=Xa3 hc
     have ha:(if h:p < s.size then cls s[p].toNat == 2 else true)=false:=by
       rw [dif_pos hpl];unfold Nx at hc;rw [dif_pos hpl] at hc;simpa using hc
     have hres:(some (MU s p),NG s p,true)=(t,k',o'):=by
       have:=hnj.out;rw [QP,hpj,if_pos hc] at this;exact this
     simp only [Prod.mk.injEq] at hres
     obtain ⟨rfl,rfl,rfl⟩:=hres
     have Ha:=Lib.hid ha
     have Hp:=Lib.hid hpj
     clear ha hpj hc hf hnj hn
     go_wp2_with fail
     refine (XdP b s j oj _ hSj hs hj).mono ?_;rintro e w1 ⟨rfl,hS1,hg1⟩;rw [Hp.out] at hS1
     have hR1:=hR.grown hg1 (by simp;omega)
     have g1:=LM hg hg1
     clear hSj hg hR hg1
     go_wp2_with fail
     refine (E5 b s p oj _ hS1 false Ha.out).mono ?_;rintro e w2 ⟨rfl,n2,rfl⟩
     have f2:=hS1.frozen 2
     have c2:=hS1.cell 2 rfl
     go_wp2_with fail
     refine (Xff b s p true _ ((hS1.drewN n2).open' true) hs hpl).mono ?_;rintro e w3 ⟨rfl,hS3,hg3⟩
     have hR3:=(Blk.setOther (hR1.drewN n2) ⟨b,2,none⟩ hne (.bool true)).grown hg3 (by simp;omega)
     have r0:=hR3.cell 0 rfl
     have r1:=hR3.cell 1 rfl
     have r2:=hR3.cell 2 rfl
     have q0:=hR3.frozen 0
     have q1:=hR3.frozen 1
     have q2:=hR3.frozen 2
     have g3:=LM (Qp (JW g1 n2) (p:=⟨b,2,none⟩) (.inl rfl) (.bool true)) hg3
     clear c2 f2 hS1 hR1 hg3
     have H3:=Lib.hid (⟨hS3,g3,hR3⟩:Scan w3 b s (NG s p) true∧w.grownBy w3 (some b)∧Blk w3 w.heap.size _ _)
     generalize htk:MU s p=tk
     have Htk:=Lib.hid htk
     clear htk
     obtain ⟨kd,tx,ps⟩:=tk
     simp only [Tok.val]
     go_wp2
     refine bodyPost_ret (v:=.tuple #[.agg #[.int .u8 kd,.string tx,.int .i64 ps],.bool true]) (by simp [results,Tryz.results159,go_sem,r0,r1,r2]) rfl ?_
     obtain ⟨hS3,g3,_⟩:=H3.out
     refine ⟨by rw [Htk.out];rfl,?_,?_⟩
     · (repeat (first | with_reducible exact hS3 | with_reducible refine Scan.drew ?_ | with_reducible refine Scan.drewN ?_ _ | with_reducible refine Scan.alloc ?_ _ | refine Scan.other ?_ _ (Nat.ne_of_lt hlt) _ | refine Scan.at (k:=p) ?_ _ | refine Scan.at' ?_))
     · (repeat (first | with_reducible exact Q9 _ _ | with_reducible refine Nh ?_ | with_reducible refine JW ?_ _ | with_reducible refine QY ?_ _ | with_reducible refine Qp ?_ (by first | exact .inl rfl | exact .inr (Nat.le_refl _) | exact .inr (by simp)) _ | with_reducible exact g3))
end
section
open Go.RowKit
section
variable {P:Program}
theorem EI (w:World) (base:Nat) (t ty e:TypeId) (i:TypeInfo) (z:Value) (size bytes:Nat) (ht:P.underlying t=some (.slice e)) (hi:P.info? e=some i) (hz:i.zero=some z)
   (hsize:i.size=size) (hby:i.bytes=bytes) (hzs:z.cells.size=size) (hsz:0 < size)
   (v:Value) (n:Nat) (xs:List Value) (hown:w.ownsRow base e size v n xs)
   (a:Addr) (m c:Nat) (news:List Value) (hl:news.length=m * size) (hnews:∀ j u,news[j]? = some u→w.cell? (a.add j)=some u) (h1:∀ u ∈ news,u.oneCell'=true)
   (h63:n+m≤maxLen) (hbytes:(n+m) * bytes≤140737488355328) (hbase:base≤w.heap.size) (hm:0 < m) :
   ∃ g' cap' w',(Builtin.append_ #[t,t] ty #[v,.slice (some a) m c]).run P w = .ok (.slice (some ⟨g',0,none⟩) (n+m) cap') w'∧w'.ownsRow base e size (.slice (some ⟨g',0,none⟩) (n+m) cap') (n+m) (xs++news)∧w.grownBy w' v.ownBlock ∧
     (v.ownBlock=some g'∨g'=w.heap.size):=by
 obtain ⟨v',w',hrun,r1,r2,r3⟩:=run_append_own (P:=P) w base t ty e i z size bytes ht hi hz hsize hby hzs hsz v n xs hown a m c news hl hnews h1 h63 hbytes hbase
 have hne:v' ≠ .slice none 0 0:=fun h=>by have:=(r3.1 h).2;omega
 rcases r1.2 with ⟨h,_⟩ | ⟨g',cap',cur',rfl,rest⟩
 · exact absurd h hne
 · refine ⟨g',cap',w',hrun,r1,r2,?_⟩
   subst hsize
   rcases hown.2 with ⟨rfl,rfl⟩ | ⟨g,cap,cur,rfl,hbg,hg,hnc,hcm,hcs,htake⟩
   · have hr:=run_append_nil (P:=P) w t ty e i z ht hi hz a m c news hl hnews (by omega) (by simp only [maxLen] at h63;omega) (by subst hby;have hb:=hbytes;simp only [Nat.zero_add] at hb;omega)
     rw [hrun] at hr
     simp only [Result.ok.injEq,Value.slice.injEq,Option.some.injEq,Addr.mk.injEq] at hr
     exact .inr hr.1.1.1
   · by_cases hroom:n+m≤cap
     · have hfit:n * i.size+news.length≤cur.size:=by rw [hl,hcs,← Nat.add_mul];exact Nat.mul_le_mul_right _ hroom
       have hr:=run_append_room (P:=P) w t ty e i ht hi g n cap cur hg a m c news hl hnews h1 hroom hfit
       rw [hrun] at hr
       simp only [Result.ok.injEq,Value.slice.injEq,Option.some.injEq,Addr.mk.injEq] at hr
       exact .inl (by simp [Value.ownBlock,hr.1.1.1])
     · have holds:∀ j u,xs[j]? = some u→w.cell? ((⟨g,0,none⟩:Addr).add j)=some u:=hown.cells (g:=g) rfl
       have hr:=run_append_grow (P:=P) w t ty e i z ht hi hz ⟨g,0,none⟩ n cap xs hown.1 holds a m c news hl hnews (by omega) (by simp only [maxLen] at h63;omega) (growslice_fits (by omega) (by subst hby;exact hbytes))
       rw [hrun] at hr
       simp only [Result.ok.injEq,Value.slice.injEq,Option.some.injEq,Addr.mk.injEq] at hr
       exact .inr hr.1.1.1
theorem Ey {F:Fence} {n:Nat} (w:World) {ops:Array Oper} {rest:List Oper} {o:Oper} {a:Act} {Q:Exit→Act→World→Prop}
   (hg:o.guard=none) (s x:Operand) (t:TypeId) (hop:o.op=Op.call { callee:=Callee.builtin Builtin.append,args:=#[s,x],argTypes:=#[t,t] })
   (base:Nat) (e:TypeId) (i:TypeInfo) (z:Value) (size bytes:Nat) (h1:P.underlying t=some (.slice e)) (h2:P.info? e=some i) (h3:i.zero=some z) (h4:i.size=size) (h5:i.bytes=bytes) (h6:z.cells.size=size) (h7:0 < size)
   (v:Value) (k:Nat) (xs:List Value) (hs:a.eval s=v) (hown:w.ownsRow base e size v k xs) (ad:Addr) (m c:Nat) (news:List Value) (hx:a.eval x = .slice (some ad) m c) (hn:news.length=m * size)
   (hc:∀ j u,news[j]? = some u→w.cell? (ad.add j)=some u) (h1c:∀ u ∈ news,u.oneCell'=true) (b1:k+m≤maxLen) (b2:(k+m) * bytes≤140737488355328) (b3:base≤w.heap.size) (b4:0 < m)
   (hK:∀ g' cap' w',w'.ownsRow base e size (.slice (some ⟨g',0,none⟩) (k+m) cap') (k+m) (xs++news)→w.grownBy w' v.ownBlock→(v.ownBlock=some g'∨g'=w.heap.size)→wpListIn F n P ops Q rest (a.put o.dst (.slice (some ⟨g',0,none⟩) (k+m) cap')) w') :
   wpListIn F n P ops Q (o :: rest) a w:=by
 refine wpListIn_plain hg fun K hK'=>?_
 obtain ⟨g',cap',w',hrun,r1,r2,r3⟩:=EI (P:=P) w base t o.type e i z size bytes h1 h2 h3 h4 h5 h6 h7 v k xs hown ad m c news hn hc h1c b1 b2 b3 b4
 unfold Oper.wpIn
 refine ⟨?_,?_⟩
 · simp [Oper.about,hop,resolve,Target.leads,Sem.run_pure]
 · rw [Oper.semAt_plain F _ _ (by rw [hop];intro c hc';cases hc')]
   simp [execOp,hop,resolve,invoke,builtin,hs,hx,hrun,Result.andThen]
   exact hK' _ _ (hK g' cap' w' r1 r2 r3)
theorem Qm (w:World) {ops:Array Oper} {rest:List Oper} {o:Oper} {a:Act} {Q:Exit→Act→World→Prop}
   (hg:o.guard=none) (s x:Operand) (t:TypeId) (hop:o.op=Op.call { callee:=Callee.builtin Builtin.append,args:=#[s,x],argTypes:=#[t,t] })
   (base:Nat) (e:TypeId) (i:TypeInfo) (z:Value) (size bytes:Nat) (h1:P.underlying t=some (.slice e)) (h2:P.info? e=some i) (h3:i.zero=some z) (h4:i.size=size) (h5:i.bytes=bytes) (h6:z.cells.size=size) (h7:0 < size)
   (v:Value) (k:Nat) (xs:List Value) (hs:a.eval s=v) (hown:w.ownsRow base e size v k xs) (ad:Addr) (m c:Nat) (news:List Value) (hx:a.eval x = .slice (some ad) m c) (hn:news.length=m * size)
   (hc:∀ j u,news[j]? = some u→w.cell? (ad.add j)=some u) (h1c:∀ u ∈ news,u.oneCell'=true) (b1:k+m≤maxLen) (b2:(k+m) * bytes≤140737488355328) (b3:base≤w.heap.size) (b4:0 < m)
   (hK:∀ g' cap' w',w'.ownsRow base e size (.slice (some ⟨g',0,none⟩) (k+m) cap') (k+m) (xs++news)→w.grownBy w' v.ownBlock→(v.ownBlock=some g'∨g'=w.heap.size)→wpList P ops Q rest (a.put o.dst (.slice (some ⟨g',0,none⟩) (k+m) cap')) w') :
   wpList P ops Q (o :: rest) a w:=by
 refine wpList_plain hg fun K hK'=>?_
 obtain ⟨g',cap',w',hrun,r1,r2,r3⟩:=EI (P:=P) w base t o.type e i z size bytes h1 h2 h3 h4 h5 h6 h7 v k xs hown ad m c news hn hc h1c b1 b2 b3 b4
 unfold Oper.wp
 simp [execOp,hop,resolve,invoke,builtin,hs,hx,hrun,Result.andThen,Oper.upon]
 exact hK' _ _ (hK g' cap' w' r1 r2 r3)
end
theorem EP {w w':World} {base:Nat} {e:TypeId} {size:Nat} {v:Value} {n:Nat} {xs:List Value} (h:w.ownsRow base e size v n xs) (he:∀ b ∈ v.ownBlock.toList,w'.heap[b]? = w.heap[b]?):w'.ownsRow base e size v n xs:=by
 obtain ⟨h1,h2⟩:=h
 refine ⟨h1,?_⟩
 rcases h2 with h2 | ⟨g,cap,cur,hv,hg,hh,r⟩
 · exact .inl h2
 · subst hv
   exact .inr ⟨g,cap,cur,rfl,hg,(he g (by simp [Value.ownBlock])).trans hh,r⟩
end
section
open Go.RowKit Go.Shelf
structure Frm (fp:List Nat) (w w':World):Prop where
 os:w'.os=w.os
 tape:w'.tape=w.tape
 output:w'.output=w.output
 size:w.heap.size≤w'.heap.size
 block:∀ b,b < w.heap.size→b ∉ fp→w'.heap[b]? = w.heap[b]?
theorem Frm.refl (fp:List Nat) (w:World):Frm fp w w:=⟨rfl,rfl,rfl,Nat.le_refl _,fun _ _ _=>rfl⟩
theorem Frm.mono {fp fp':List Nat} {w w':World} (h:Frm fp w w') (hs:∀ b ∈ fp,b ∈ fp'∨w.heap.size≤b):Frm fp' w w':=
 ⟨h.os,h.tape,h.output,h.size,fun b hb hn=>h.block b hb fun hm=>by rcases hs b hm with h1 | h1;exact hn h1;omega⟩
theorem Frm.trans {fp:List Nat} {a b c:World} (h:Frm fp a b) (k:Frm fp b c):Frm fp a c:=
 ⟨k.os.trans h.os,k.tape.trans h.tape,k.output.trans h.output,Nat.le_trans h.size k.size,fun i hi hn=>(k.block i (Nat.lt_of_lt_of_le hi h.size) hn).trans (h.block i hi hn)⟩
theorem Frm.trans_new {fp fq:List Nat} {a b c:World} (h:Frm fp a b) (k:Frm fq b c) (hq:∀ x ∈ fq,x ∈ fp∨a.heap.size≤x):Frm fp a c:=
 ⟨k.os.trans h.os,k.tape.trans h.tape,k.output.trans h.output,Nat.le_trans h.size k.size,fun i hi hn=>(k.block i (Nat.lt_of_lt_of_le hi h.size) (fun hm=>by rcases hq i hm with h1 | h1;exact hn h1;omega)).trans (h.block i hi hn)⟩
theorem Frm.of_grown {w w':World} {row:Option Nat} (h:w.grownBy w' row) (fp:List Nat) (hr:∀ k,row=some k→k ∈ fp):Frm fp w w':=
 ⟨h.os,h.tape,h.output,h.size,fun b hb hn=>h.block b hb fun e=>hn (hr b e.symm)⟩
theorem Frm.below {w w':World} {B:Nat} {fp:List Nat} (h:Frm fp w w') (hB:B≤w.heap.size) (hf:∀ b ∈ fp,B≤b):Below B w w':=
 ⟨h.os,h.tape,h.output,h.size,fun b hb=>h.block b (by omega) fun hm=>by have:=hf b hm;omega⟩
theorem Frm.drewN {fp:List Nat} {a w:World} (h:Frm fp a w) (n:Nat):Frm fp a (w.drewN n):=⟨h.os,h.tape,h.output,h.size,h.block⟩
theorem Frm.drew {fp:List Nat} {a w:World} (h:Frm fp a w):Frm fp a w.drew:=⟨h.os,h.tape,h.output,h.size,h.block⟩
theorem Frm.alloc {fp:List Nat} {a w:World} (h:Frm fp a w) (o:Obj):Frm fp a (w.alloc o):=
 ⟨h.os,h.tape,h.output,Nat.le_trans h.size (by simp),fun i hi hne=>(Below.heap_alloc w o i (Nat.lt_of_lt_of_le hi h.size)).trans (h.block i hi hne)⟩
theorem Frm.setCell {fp:List Nat} {a w:World} (h:Frm fp a w) {p:Addr} (hp:p.block ∈ fp∨a.heap.size≤p.block) (u:Value):Frm fp a (w.setCell p u):=
 ⟨h.os,h.tape,h.output,by simpa [World.setCell] using h.size,fun i hi hne=>(Below.heap_setCell w p u i (by
   rintro rfl
   rcases hp with hp | hp
   · exact hne hp
   · omega)).trans (h.block i hi hne)⟩
theorem Frm.putObj {fp:List Nat} {a w:World} (h:Frm fp a w) {r:Nat} (hp:r ∈ fp∨a.heap.size≤r) (o:Obj):Frm fp a (w.putObj r o):=
 ⟨h.os,h.tape,h.output,by simpa using h.size,fun i hi hne=>(World.putObj_heap_other (by
   rintro rfl
   rcases hp with hp | hp
   · exact hne hp
   · omega)).trans (h.block i hi hne)⟩
theorem Blk.frm {w w':World} {b:Nat} {cs:List Value} {t:TypeId} {fp:List Nat} (h:Blk w b cs t) (hf:Frm fp w w') (hn:b ∉ fp):Blk w' b cs t:=
 (hf.block b h.lt hn).trans h
theorem Xe8 (f:FuncId):Fence.wide.fn f=True:=rfl
theorem Cp:Fence.wide.depth=none:=rfl
theorem Co (l:Nat) (f:FuncId):(Fence.wide.inRound l).fn f=True:=rfl
theorem Ez (l:Nat):(Fence.wide.inRound l).depth=none:=rfl
section
variable {α:Type}
structure Local (J:List α→List Nat→World→Prop):Prop where
 stable:∀ pre fp W W',J pre fp W→W.heap.size≤W'.heap.size→(∀ b ∈ fp,W'.heap[b]? = W.heap[b]?)→J pre fp W'
 lt:∀ pre fp W,J pre fp W→∀ b ∈ fp,b < W.heap.size
def XkO (n:Nat) (P:Program) (gf:Nat) (lb:Array Value) (encs:α→Array Value) (all:List α) (own wr:List Nat) (w0:World):Prop:=
 ∀ (l:Nat) (J Jx:List α→List Nat→World→Prop) (W:World) (fp:List Nat),Frm [] w0 W→Local J→Local Jx →
   (∀ pre x W1 fp1,J pre fp1 W1→pre++[x] <+: all→YieldAt Fence.wide (n - 1) P l (encs x) W1 fun e W'=>∃ fp',Frm fp1 W1 W'∧(∀ b ∈ fp',b ∈ fp1∨W1.heap.size≤b) ∧
     ((e = .returned (.bool true)∧J (pre++[x]) fp' W')∨(e = .returned (.bool false)∧Jx (pre++[x]) fp' W'))) →
   J [] fp W→(∀ b ∈ own,b ∉ fp) →
   CallsIn Fence.wide n P gf (#[.func (.yield l) #[] #[]]++lb) W fun e W'=>(∃ v,e = .returned v)∧Frm (wr++fp) W W'∧∃ fp',(J all fp' W'∨∃ pre,pre <+: all∧Jx pre fp' W')
def Xgt (I:List α→List Nat→World→Prop) (Ix:Code→List α→List Nat→World→Prop) (xs:List α) (fp:List Nat) (W W2:World):Exit→Act→World→Prop
 | .normal,_,W3=>Frm fp W2 W3∧∃ fp',(∀ b ∈ fp',b ∈ fp∨W.heap.size≤b)∧I xs fp' W3
 | .ret,_,W3=>Frm fp W2 W3∧∃ fp',(∀ b ∈ fp',b ∈ fp∨W.heap.size≤b)∧Ix .ret xs fp' W3
 | .exit id,_,W3=>Frm fp W2 W3∧∃ fp',(∀ b ∈ fp',b ∈ fp∨W.heap.size≤b)∧Ix (.exit id) xs fp' W3
 | .goto t,_,W3=>Frm fp W2 W3∧∃ fp',(∀ b ∈ fp',b ∈ fp∨W.heap.size≤b)∧Ix (.goto t) xs fp' W3
 | .panic _,_,_=>False
 | .outgrown,_,_=>False
theorem E7 {P:Program} {n:Nat} {g:Operand} {ps:Array Tmp} {assign body:Code} {Q:Exit→Act→World→Prop} {a:Act} {w:World}
   {gf:Nat} {lb:Array Value} (hg:a.eval g = .func (.func gf) #[] lb) (eg:∀ args w,(callFunc gf args).run P w = .ok (.enter gf args) w)
   {encs:α→Array Value} {all:List α} {own wr:List Nat} (hseq:XkO (n - 1) P gf lb encs all own wr w) (hps:∀ x,(encs x).size=ps.size)
   (I:List α→List Nat→World→Prop) (Ix:Code→List α→List Nat→World→Prop) (hI:Local I) (hIx:∀ c,Local (Ix c)) (fp0:List Nat) (h0:I [] fp0 w) (hown:∀ b ∈ own,b ∉ fp0∧b < w.heap.size)
   (Ax:α→World→Act→World→Prop)
   (hassign:∀ (l:Nat) (x:α) (W:World) (K:Act→World→Prop),(∀ a₁ W₁,Ax x W a₁ W₁→K a₁ W₁) →
     assign.wpIn (Fence.wide.inRound l) (n - 1 - 1) P (Exit.then K (fun _ _ _=>False)) { tmps:=(ps.zip (encs x)).foldl (fun t (p,v)=>t.setIfInBounds p v) a.tmps,defers:=[] } W)
   (hAx:∀ x W a₁ W₁,Ax x W a₁ W₁→Frm [] W W₁)
   (hbody:∀ (l:Nat) (pre:List α) (x:α) (W W₁ W₂:World) (a₁:Act) (fp:List Nat),I pre fp W→pre++[x] <+: all→Ax x W a₁ W₁→Frm [l] W₁ W₂→W₂.heap.size=W₁.heap.size→l ∉ fp→l < W.heap.size →
     body.wpIn (Fence.wide.inRound l) (n - 1 - 1) P (Xgt I Ix (pre++[x]) fp W W₂) a₁ W₂)
   (hdone:∀ (D:Nat) (fp:List Nat) (W:World),I all fp W→W.heap[D]? = some (.deferred (some []))→Frm (wr++fp0) w W→w.heap.size≤D→D ∉ fp→Q .normal { a with defers:={ target:=.collected D,args:=#[] } :: a.defers } W)
   (hstop:∀ (D:Nat) (c:Code) (pre:List α) (fp:List Nat) (W:World),pre <+: all→Ix c pre fp W→W.heap[D]? = some (.deferred (some []))→Frm (wr++fp0) w W→w.heap.size≤D→D ∉ fp →
     c.wpIn Fence.wide n P Q { a with defers:={ target:=.collected D,args:=#[] } :: a.defers } W) :
   (Code.rangeFunc g ps assign body).wpIn Fence.wide n P Q a w:=by
 refine wpIn_rangeFunc ?_
 intro fn hfn
 rw [show Fence.wide.round=none from rfl]
 obtain ⟨rec,hrec⟩:∃ rec:LoopState→Option Code→Loop,rec=fun st pe=>{ state:=st,pending:=pe,fn,tmps:=a.tmps,params:=ps,assign,body,defers:=w.heap.size }:=⟨_,rfl⟩
 obtain ⟨W1,hW1⟩:∃ W1,(w.alloc (.deferred (some []))).alloc (.loop (rec .ready none))=W1:=⟨_,rfl⟩
 obtain ⟨D,hD⟩:∃ D,D=w.heap.size:=⟨_,rfl⟩
 obtain ⟨L,hL⟩:∃ L,L=w.heap.size+1:=⟨_,rfl⟩
 have hL1:W1.heap[L]? = some (.loop (rec .ready none)):=by
   rw [← hW1,hL];have:=World.alloc_heap_new (w.alloc (.deferred (some []))) (.loop (rec .ready none));rwa [World.size_alloc] at this
 have hK1:W1.heap[D]? = some (.deferred (some [])):=by
   rw [← hW1,hD];exact (Below.heap_alloc _ _ _ (by simp)).trans (World.alloc_heap_new w _)
 have hf1:Frm [] w W1:=by rw [← hW1];exact ((Frm.refl _ _).alloc _).alloc _
 have hlt0:=hI.lt _ _ _ h0
 have hI1:I [] fp0 W1:=hI.stable _ _ _ _ h0 hf1.size fun b hb=>hf1.block b (hlt0 b hb) (by simp)
 refine ⟨w.heap.size+1,[{ target:=.collected w.heap.size,args:=#[] }],W1,{ target:=.fn (.func gf) lb,args:=#[.func (.yield (w.heap.size+1)) #[] #[]] },W1,gf,
   #[.func (.yield (w.heap.size+1)) #[] #[]]++lb,W1,?_,?_,?_,?_,fun h=>by simp [Fence.wide] at h,?_⟩
 · rw [← hW1,hrec];exact run_enterLoop_outer _ _ _ _ _
 · simp only [resolve,hg]
   simp [go_sem]
 · intro f' hf';trivial
 · simp [invoke,go_sem,eg]
 · rw [← hL,← hD]
   -- the caller's facts with the two of book-keeping
   have hloc:∀ (K:List α→List Nat→World→Prop) (st:LoopState) (pe:Option Code),Local K →
       Local (fun pre fp W=>∃ fq,fp=L :: D :: fq∧L ∉ fq∧D ∉ fq∧K pre fq W∧W.heap[L]? = some (.loop (rec st pe))∧W.heap[D]? = some (.deferred (some []))):=by
     intro K st pe hK
     refine ⟨?_,?_⟩
     · rintro pre fp W W' ⟨fq,rfl,h1,h2,h3,h4,h5⟩ hz hag
       exact ⟨fq,rfl,h1,h2,hK.stable _ _ _ _ h3 hz (fun b hb=>hag b (by simp [hb])),(hag L (by simp)).trans h4,(hag D (by simp)).trans h5⟩
     · rintro pre fp W ⟨fq,rfl,h1,h2,h3,h4,h5⟩ b hb
       simp only [List.mem_cons] at hb
       rcases hb with rfl | rfl | hb
       · exact (Array.getElem?_eq_some_iff.1 h4).1
       · exact (Array.getElem?_eq_some_iff.1 h5).1
       · exact hK.lt _ _ _ h3 b hb
   have hLf:L ∉ fp0:=fun h=>by have:=hlt0 _ h;omega
   have hDf:D ∉ fp0:=fun h=>by have:=hlt0 _ h;omega
   refine (hseq L
     (fun pre fp W=>∃ fq,fp=L :: D :: fq∧L ∉ fq∧D ∉ fq∧I pre fq W∧W.heap[L]? = some (.loop (rec .ready none))∧W.heap[D]? = some (.deferred (some [])))
     (fun pre fp W=>∃ c fq,fp=L :: D :: fq∧L ∉ fq∧D ∉ fq∧Ix c pre fq W∧W.heap[L]? = some (.loop (rec .done (some c)))∧W.heap[D]? = some (.deferred (some [])))
     W1 (L :: D :: fp0) hf1 (hloc I _ _ hI) ?_ ?_ ⟨fp0,rfl,hLf,hDf,hI1,hL1,hK1⟩ ?_).mono ?_
   · refine ⟨?_,?_⟩
     · rintro pre fp W W' ⟨c,h⟩ hz hag
       exact ⟨c,(hloc (Ix c) .done (some c) (hIx c)).stable pre fp W W' h hz hag⟩
     · rintro pre fp W ⟨c,h⟩ b hb
       exact (hloc (Ix c) .done (some c) (hIx c)).lt pre fp W h b hb
   · -- one round
     rintro pre x W fp1 ⟨fq,rfl,hLq,hDq,hi,hl,hk⟩ hpx
     have hlt:L < W.heap.size:=(Array.getElem?_eq_some_iff.1 hl).1
     have hltD:D < W.heap.size:=(Array.getElem?_eq_some_iff.1 hk).1
     have hDL:D ≠ L:=by omega
     have hy:=run_yield (P:=P) (args:=encs x) hl (by rw [hrec];exact hps x)
     rw [hrec] at hy
     refine ⟨fn,_,assign,body,hy,roundIn_of_wpIn hfn (hassign _ x W _ fun a₁ W₁ hax=>?_)⟩
     have hf:=hAx _ _ _ _ hax
     have hl1:W₁.heap[L]? = some (.loop (rec .ready none)):=(hf.block L hlt (by simp)).trans hl
     have hk1:W₁.heap[D]? = some (.deferred (some [])):=(hf.block D hltD (by simp)).trans hk
     have hlt1:L < W₁.heap.size:=(Array.getElem?_eq_some_iff.1 hl1).1
     refine ⟨_,run_beginRound hl1 (by rw [hrec]),?_⟩
     have hl2:(W₁.putObj L (.loop { rec .ready none with state:=.busy })).heap[L]? = some (.loop { rec .ready none with state:=.busy }):=World.putObj_heap_same hlt1
     have hk2:(W₁.putObj L (.loop { rec .ready none with state:=.busy })).heap[D]? = some (.deferred (some [])):=(World.putObj_heap_other hDL).trans hk1
     have hf2:Frm [L] W₁ (W₁.putObj L (.loop { rec .ready none with state:=.busy })):=(Frm.refl _ _).putObj (.inl (by simp)) _
     refine wpIn_mono (hbody _ pre x W W₁ _ a₁ fq hi hpx hax hf2 (by simp) hLq hlt) ?_
     have hlt2:L < (W₁.putObj L (.loop { rec .ready none with state:=.busy })).heap.size:=by simpa using hlt1
     have hltD2:D < (W₁.putObj L (.loop { rec .ready none with state:=.busy })).heap.size:=by have:=hf.size;simp;omega
     have fin:∀ (jump:Option Code) (W3:World),Frm fq (W₁.putObj L (.loop { rec .ready none with state:=.busy })) W3 →
         (Instr.endRound L jump).run P W3 = .ok (.bool jump.isNone) (W3.putObj L (.loop (rec (if jump.isNone then .ready else .done) jump))) ∧
         (W3.putObj L (.loop (rec (if jump.isNone then .ready else .done) jump))).heap[L]? = some (.loop (rec (if jump.isNone then .ready else .done) jump)) ∧
         (W3.putObj L (.loop (rec (if jump.isNone then .ready else .done) jump))).heap[D]? = some (.deferred (some []))∧L < W3.heap.size ∧
         Frm (L :: D :: fq) W (W3.putObj L (.loop (rec (if jump.isNone then .ready else .done) jump))):=fun jump W3 hk3=>by
       have hl3:=(hk3.block L hlt2 hLq).trans hl2
       have:=run_endRound (P:=P) jump hl3
       have hlt3:=(Array.getElem?_eq_some_iff.1 hl3).1
       rw [hrec] at this ⊢
       refine ⟨this,World.putObj_heap_same hlt3,(World.putObj_heap_other hDL).trans ((hk3.block D hltD2 hDq).trans hk2),hlt3,?_⟩
       refine Frm.putObj ?_ (.inl (by simp)) _
       refine ((hf.mono (by simp)).trans (Frm.putObj (Frm.refl _ _) (.inl (by simp)) _)).trans (hk3.mono (fun b hb=>.inl (by simp [hb])))
     have put:∀ (K:List α→List Nat→World→Prop),Local K→∀ (xs:List α) (fp':List Nat) (W3:World) (o:Obj),K xs fp' W3→L ∉ fp'→K xs fp' (W3.putObj L o):=fun K hK xs fp' W3 o h hn=>
       hK.stable _ _ _ _ h (by simp) (fun b hb=>World.putObj_heap_other (fun e=>hn (e ▸ hb)))
     have hnot:∀ fp':List Nat,(∀ b ∈ fp',b ∈ fq∨W.heap.size≤b)→L ∉ fp'∧D ∉ fp':=fun fp' h=>
       ⟨fun hm=>by rcases h _ hm with h1 | h1;exact hLq h1;omega,fun hm=>by rcases h _ hm with h1 | h1;exact hDq h1;omega⟩
     have hin:∀ fp':List Nat,(∀ b ∈ fp',b ∈ fq∨W.heap.size≤b)→∀ b ∈ L :: D :: fp',b ∈ L :: D :: fq∨W.heap.size≤b:=fun fp' h b hb=>by
       simp only [List.mem_cons] at hb ⊢
       rcases hb with rfl | rfl | hb
       · simp
       · simp
       · rcases h b hb with h1 | h1
         · simp [h1]
         · exact .inr h1
     rintro e a3 W3 hp
     cases e with
     | normal=>
       obtain ⟨hk3,fp',hfp,hi3⟩:=hp
       obtain ⟨hr,hl4,hk4,_,hfr⟩:=fin none W3 hk3
       obtain ⟨n1,n2⟩:=hnot _ hfp
       exact ⟨_,_,hr,L :: D :: fp',hfr,hin _ hfp,.inl ⟨rfl,fp',rfl,n1,n2,put I hI _ _ _ _ hi3 n1,hl4,hk4⟩⟩
     | ret=>
       obtain ⟨hk3,fp',hfp,hi3⟩:=hp
       obtain ⟨hr,hl4,hk4,_,hfr⟩:=fin (some .ret) W3 hk3
       obtain ⟨n1,n2⟩:=hnot _ hfp
       exact ⟨_,_,hr,L :: D :: fp',hfr,hin _ hfp,.inr ⟨rfl,.ret,fp',rfl,n1,n2,put _ (hIx _) _ _ _ _ hi3 n1,hl4,hk4⟩⟩
     | exit id=>
       obtain ⟨hk3,fp',hfp,hi3⟩:=hp
       obtain ⟨hr,hl4,hk4,_,hfr⟩:=fin (some (.exit id)) W3 hk3
       obtain ⟨n1,n2⟩:=hnot _ hfp
       exact ⟨_,_,hr,L :: D :: fp',hfr,hin _ hfp,.inr ⟨rfl,.exit id,fp',rfl,n1,n2,put _ (hIx _) _ _ _ _ hi3 n1,hl4,hk4⟩⟩
     | goto t=>
       obtain ⟨hk3,fp',hfp,hi3⟩:=hp
       obtain ⟨hr,hl4,hk4,_,hfr⟩:=fin (some (.goto t)) W3 hk3
       obtain ⟨n1,n2⟩:=hnot _ hfp
       exact ⟨_,_,hr,L :: D :: fp',hfr,hin _ hfp,.inr ⟨rfl,.goto t,fp',rfl,n1,n2,put _ (hIx _) _ _ _ _ hi3 n1,hl4,hk4⟩⟩
     | panic ch=>exact hp.elim
     | outgrown=>exact hp.elim
   · intro b hb
     obtain ⟨h1,h2⟩:=hown b hb
     simp only [List.mem_cons,not_or]
     exact ⟨by omega,by omega,h1⟩
   · -- behind the iterator
     have hall:∀ W2:World,Frm (wr++(L :: D :: fp0)) W1 W2→Frm (wr++fp0) w W2:=fun W2 hfr=>
       ⟨hfr.os.trans hf1.os,hfr.tape.trans hf1.tape,hfr.output.trans hf1.output,Nat.le_trans hf1.size hfr.size,fun b hb hn=>by
         simp only [List.mem_append,not_or] at hn
         refine (hfr.block b (by have:=hf1.size;omega) ?_).trans (hf1.block b hb (by simp))
         simp only [List.mem_append,List.mem_cons,not_or]
         exact ⟨hn.1,by omega,by omega,hn.2⟩⟩
     rintro e W2 ⟨⟨v,rfl⟩,hfr,fp',(⟨fq,rfl,hLq,hDq,hi,hl,hk⟩ | ⟨pre,hpre,c,fq,rfl,hLq,hDq,hi,hl,hk⟩)⟩
     · refine ⟨none,_,by have:=run_endLoop (P:=P) hl (by rw [hrec];simp);rw [hrec] at this;exact this,?_⟩
       rw [hD] at hk hDq ⊢
       refine hdone _ fq _ (hI.stable _ _ _ _ hi (by simp) (fun b hb=>World.putObj_heap_other (fun e=>hLq (e ▸ hb)))) ((World.putObj_heap_other (by omega)).trans hk) ?_ (Nat.le_refl _) hDq
       exact (hall _ hfr).putObj (.inr (by omega)) _
     · refine ⟨some c,_,by have:=run_endLoop (P:=P) hl (by rw [hrec];simp);rw [hrec] at this;exact this,?_⟩
       rw [hD] at hk hDq ⊢
       exact hstop _ c pre fq _ hpre ((hIx c).stable _ _ _ _ hi (by simp) (fun b hb=>World.putObj_heap_other (fun e=>hLq (e ▸ hb)))) ((World.putObj_heap_other (by omega)).trans hk) ((hall _ hfr).putObj (.inr (by omega)) _) (Nat.le_refl _) hDq
end
end
section
open Go.RowKit
theorem M1 {s:ByteArray}:∀ {f k o t k' o'},QP s f k o=(some t,k',o')→k≤s.size→k'≤s.size∧2 * (s.size - k')+o'.toNat < 2 * (s.size - k)+o.toNat
 | 0,k,o,t,k',o',h,hk=>by simp [QP] at h
 | f+1,k,o,t,k',o',h,hk=>by
   have h1:=EO s k
   have h2:=BC s k hk
   rw [QP] at h
   split at h
   · rename_i hc
     have h3:=Xa3 hc
     have h4:=Xan s _ h3
     have h5:=MT s (QE s k)
     simp only [Prod.mk.injEq] at h
     obtain ⟨_,rfl,rfl⟩:=h
     exact ⟨h4,by simp;omega⟩
   · split at h
     · rename_i ho
       simp only [Prod.mk.injEq] at h
       obtain ⟨_,rfl,rfl⟩:=h
       subst ho
       exact ⟨by omega,by simp;omega⟩
     · split at h
       · simp at h
       · obtain ⟨a,b⟩:=M1 h (by omega)
         exact ⟨a,by simp at b;omega⟩
def LT (s:ByteArray):Nat→Nat→Bool→List Tok
 | 0,_,_=>[]
 | f+1,k,o=>
   match QP s (s.size+1) k o with
   | (some t,k',o')=>t :: LT s f k' o'
   | (none,_,_)=>[]
def MS (s:ByteArray):List Tok:=LT s (2 * s.size+1) 0 false
theorem Xbo (s:ByteArray):∀ f k o,(LT s f k o).length≤f
 | 0,_,_=>Nat.le_refl _
 | f+1,k,o=>by
   rw [LT];split
   · simp;exact Xbo s f _ _
   · simp
theorem XdT {s:ByteArray}:∀ {f k o t k' o'},QP s f k o=(some t,k',o')→(t.kind=1∨t.kind=2∨(t.kind=3∧0 < t.text.size)∨t.kind=4)∧t.text.size≤s.size
 | 0,k,o,t,k',o',h=>by simp [QP] at h
 | f+1,k,o,t,k',o',h=>by
   rw [QP] at h
   split at h
   · rename_i hc
     have h3:=Xa3 hc
     have h4:=Xan s _ h3
     have h5:=MT s (QE s k)
     simp only [Prod.mk.injEq,Option.some.injEq] at h
     obtain ⟨rfl,_,_⟩:=h
     have hz:(s.extract (QE s k) (NG s (QE s k))).size=NG s (QE s k) - QE s k:=by
       rw [ByteArray.size_extract];omega
     refine ⟨?_,by simp only [MU];rw [hz];omega⟩
     unfold MU Db
     simp only
     split
     · exact .inl rfl
     · split
       · exact .inr (.inl rfl)
       · exact .inr (.inr (.inl ⟨rfl,by rw [hz];omega⟩))
   · split at h
     · simp only [Prod.mk.injEq,Option.some.injEq] at h
       obtain ⟨rfl,_,_⟩:=h
       exact ⟨by simp,by simp⟩
     · split at h
       · simp at h
       · exact XdT h
theorem Xb8 {tx:ByteArray} {ps:Nat} (h:0 < tx.size):JV ⟨3,tx,ps⟩=if cls tx[0].toNat=6 then 0 else 40:=by
 unfold JV Nx;simp [h]
set_option maxHeartbeats 1000000 in
theorem Xgy (kd:Nat) (tx:ByteArray) (ps:Nat) (w:World) (hk:kd=1∨kd=2∨(kd=3∧0 < tx.size)∨kd=4) (hs:tx.size≤16384) :
   Calls Tryz.prog 160 #[(Tok.mk kd tx ps).val] w fun e w'=>e = .returned (.int .i64 (JV ⟨kd,tx,ps⟩))∧w.grownBy w' none:=by
 unfold Tok.val
 simp only
 rcases hk with rfl | rfl | ⟨rfl,h0⟩ | rfl
 · by_cases hl:16 < tx.size
   all_goals
     have Hf:Hid (JV ⟨1,tx,ps⟩=if 16 < tx.size then 42 else 0):=Lib.hid (by simp [JV])
     go_enter Tryz.func160,Tryz.ntmps160
     go_wp2
     go_returns
     exact ⟨Q3 (by rw [Hf.out];simp;omega),World.grownBy_alloc _ _ _⟩
 · cases hn:Nv tx
   all_goals
     have Hf:Hid (JV ⟨2,tx,ps⟩=if Nv tx then 0 else 41):=Lib.hid (by simp [JV])
     have Hn:=Lib.hid hn
     have hm:tx.size≤maxLen:=by unfold maxLen;omega
     clear hn
     go_enter Tryz.func160,Tryz.ntmps160
     go_wp2_with (go_at_call 165;refine (Xjh _ _ hm _ Hn.out).mono ?_;rintro e w' ⟨rfl,rfl⟩)
     go_returns
     exact ⟨Q3 (by rw [Hf.out,Hn.out];simp),World.grownBy_alloc _ _ _⟩
 · have Hf:=Lib.hid (Xb8 (ps:=ps) h0)
   by_cases hc:cls tx[0].toNat=6
   · have hc1:(cls ↑tx[0].toNat != 6)=false:=by simpa using hc
     have Hc:=Lib.hid hc
     clear hc
     go_enter Tryz.func160,Tryz.ntmps160
     go_wp2_with (go_at_call 138;refine (JC _ _).mono ?_;rintro e w' ⟨rfl,rfl⟩)
     go_returns
     exact ⟨Q3 (by rw [Hf.out,if_pos Hc.out]),World.grownBy_alloc _ _ _⟩
   · have hc1:(cls ↑tx[0].toNat != 6)=true:=by simpa using hc
     have Hc:=Lib.hid hc
     clear hc
     go_enter Tryz.func160,Tryz.ntmps160
     go_wp2_with (go_at_call 138;refine (JC _ _).mono ?_;rintro e w' ⟨rfl,rfl⟩)
     go_returns
     exact ⟨Q3 (by rw [Hf.out,if_neg Hc.out]),World.grownBy_alloc _ _ _⟩
 · go_enter Tryz.func160,Tryz.ntmps160
   go_wp2
   go_returns
   exact ⟨Q3 (by simp [JV]),World.grownBy_alloc _ _ _⟩
end
section
open Go.RowKit Go.Shelf
attribute [local go_sem] Oper.semAt_some Xe8 Cp Co Ez
def Xfg (t:Tok):Array Value:=#[t.val,.int .i64 (JV t)]
def Tok.cells (t:Tok):List Value:=[.int .u8 t.kind,.string t.text,.int .i64 t.pos]
def Tok.none:Tok:=⟨0,ByteArray.empty,0⟩
def B9:Value→Nat | .bool true=>1 | _=>0
def XiZ (s:ByteArray) (b:Nat) (wr:World):Nat:=
 match wr.heap[b]? with
 | some (.cells cs _ _)=>2 * (s.size - (intOf (cs.getD 1 undef)).toNat)+B9 (cs.getD 2 undef)
 | _=>0
theorem XdN {wr:World} {b:Nat} {s:ByteArray} {k:Nat} {o:Bool} (h:Scan wr b s k o):XiZ s b wr=2 * (s.size - k)+o.toNat:=by
 have h':wr.heap[b]? = some (.cells [Value.string s,.int .i64 k,.bool o].toArray 204 (0,0)):=h
 unfold XiZ
 rw [h']
 cases o <;> simp [intOf,B9]
theorem LN {s:ByteArray}:∀ {f k o k' o'},QP s f k o=(none,k',o')→k≤s.size→k'≤s.size∧2 * (s.size - k')+o'.toNat≤2 * (s.size - k)+o.toNat
 | 0,k,o,k',o',h,hk=>by
   simp only [QP,Prod.mk.injEq,true_and] at h
   obtain ⟨rfl,rfl⟩:=h;exact ⟨hk,Nat.le_refl _⟩
 | f+1,k,o,k',o',h,hk=>by
   have h1:=EO s k
   have h2:=BC s k hk
   rw [QP] at h
   split at h
   · simp at h
   · split at h
     · simp at h
     · split at h
       · simp only [Prod.mk.injEq,true_and] at h
         obtain ⟨rfl,rfl⟩:=h
         exact ⟨by omega,by simp;omega⟩
       · obtain ⟨a,b⟩:=LN h (by omega)
         exact ⟨a,by simp at b;omega⟩
theorem XfW (b:Nat) (s:ByteArray) (k:Nat) (o:Bool) (w:World) (hS:Scan w b s k o) (hs:s.size≤16384) (hk:k≤s.size)
   (t:Option Tok) (k':Nat) (o':Bool) (hn:Hid (QP s (s.size+1) k o=(t,k',o'))) (kd:Nat) (tx:ByteArray) (ps:Nat) (ht:Hid (t.getD Tok.none=⟨kd,tx,ps⟩)) :
   Calls Tryz.prog 159 #[.pointer (some ⟨b,0,none⟩)] w fun e w'=>e = .returned (.tuple #[.agg #[.int .u8 kd,.string tx,.int .i64 ps],.bool t.isSome])∧Scan w' b s k' o'∧w.grownBy w' (some b):=
 (XhF b s k o w hS hs hk (s.size+1) (by omega) t k' o' hn.out).mono fun e w' ⟨he,h2⟩=>⟨by rw [he];have:=ht.out;unfold Tok.none at this;rw [this];rfl,h2⟩
theorem Cv {s:ByteArray} {f k:Nat} {o:Bool} {t:Option Tok} {k':Nat} {o':Bool} (hn:QP s (s.size+1) k o=(t,k',o')) (hk:k≤s.size) (hf:2 * (s.size - k)+o.toNat < f) :
   ∃ f',LT s f k o=t.toList++(if t.isSome then LT s f' k' o' else [])∧(t.isSome=true→2 * (s.size - k')+o'.toNat < f')∧f'+1=f:=by
 obtain ⟨f',rfl⟩:∃ f',f=f'+1:=⟨f - 1,by omega⟩
 refine ⟨f',?_,?_,rfl⟩
 · rw [LT,hn];cases t <;> simp
 · cases t with
   | none=>simp
   | some t=>intro _;have:=(M1 hn hk).2;omega
def XkN (s:ByteArray) (B Bx:Nat) (J:List Tok→List Nat→World→Prop) (fp0:List Nat) (W:World) (pre:List Tok) (fp:List Nat) (k:Nat) (o:Bool) (T:Nat) (tk:Option Tok) (wr:World):Prop:=
 Scan wr B s k o∧k≤s.size∧Blk wr Bx [.pointer (some ⟨B,0,none⟩)] 212∧J pre fp wr∧(∀ b ∈ fp,b ∈ fp0∨W.heap.size≤b)∧T ∉ fp∧B ∉ fp∧Bx ∉ fp∧T ≠ B∧T ≠ Bx∧W.heap.size≤T∧Frm (B :: fp0) W wr ∧
   (∃ f,(tk.isSome=true→2 * (s.size - k)+o.toNat < f)∧MS s=pre++tk.toList++(if tk.isSome then LT s f k o else []))∧(∀ t,tk=some t→∃ j q,QP s (s.size+1) j q=(some t,k,o))
theorem Xe6 {n l:Nat} {P:Program} {args:Array Value} {W:World} {fp:List Nat} {J Jx:List Nat→World→Prop}
   (h:YieldAt Fence.wide n P l args W fun e W'=>∃ fp',Frm fp W W'∧(∀ b ∈ fp',b ∈ fp∨W.heap.size≤b)∧((e = .returned (.bool true)∧J fp' W')∨(e = .returned (.bool false)∧Jx fp' W'))) :
   YieldAt Fence.wide n P l args W fun e W'=>∃ c:Bool,e = .returned (.bool c)∧Hid (∃ fp',Frm fp W W'∧(∀ b ∈ fp',b ∈ fp∨W.heap.size≤b)∧(if c then J fp' W' else Jx fp' W')):=
 h.mono fun e W' ⟨fp',h1,h2,h3⟩=>by
   rcases h3 with ⟨rfl,h3⟩ | ⟨rfl,h3⟩
   · exact ⟨true,rfl,Lib.hid ⟨fp',h1,h2,by simpa using h3⟩⟩
   · exact ⟨false,rfl,Lib.hid ⟨fp',h1,h2,by simpa using h3⟩⟩
set_option maxRecDepth 100000 in
set_option maxHeartbeats 4000000 in
theorem XcD (n:Nat) (B Bx:Nat) (s:ByteArray) (hs:s.size≤16384) (w0:World) (hS0:Scan w0 B s 0 false) (hX0:Blk w0 Bx [.pointer (some ⟨B,0,none⟩)] 212) (hne:B ≠ Bx) :
   XkO n Tryz.prog 158 #[.pointer (some ⟨Bx,0,none⟩)] Xfg (MS s) [B,Bx] [B] w0:=by
 intro l J Jx W fp0 hW hJ hJx hY h0 hown
 have hS:=hW.block B hS0.lt (by simp)
 have hX:=hX0.frm hW (by simp)
 replace hS:Scan W B s 0 false:=hS.trans hS0
 obtain ⟨ho1,ho2⟩:B ∉ fp0∧Bx ∉ fp0:=⟨hown B (by simp),hown Bx (by simp)⟩
 obtain ⟨t1,k1,o1,hn1⟩:∃ t k o,QP s (s.size+1) 0 false=(t,k,o):=⟨_,_,_,rfl⟩
 have hmix:(Tryz.prog).follows .mixedOrders=true:=by kernel_rfl
 obtain ⟨kd,tx,ps,ht1⟩:∃ kd tx ps,t1.getD Tok.none=⟨kd,tx,ps⟩:=⟨_,_,_,rfl⟩
 have hx0:=hX.cell 0 rfl
 have Hn1:=Lib.hid hn1
 have Ht1:=Lib.hid ht1
 have hlts:=hS.lt
 have hltx:=hX.lt
 have hltf:=Lib.hid (hJ.lt _ _ _ h0)
 clear hn1 ht1
 refine callsIn_of_wp Tryz.func158 rfl trivial ?_ rfl
 simp only [Tryz.ntmps158,List.size_toArray,List.length_cons,List.length_nil,Nat.reduceAdd,Nat.reduceSub,Array.replicate_succ,Array.replicate_zero,List.push_toArray,List.append_toArray,List.nil_append,List.cons_append]
 gi_wp2_with (gi_at_call 159;refine (callsIn_wide.2 (XfW B s 0 false _ hS hs (Nat.zero_le _) t1 k1 o1 Hn1 kd tx ps Ht1)).mono ?_;rintro e w1 ⟨rfl,hS1,hg1⟩)
 gi_loopw [3,4] (fun tp okv wr=>∃ (pre:List Tok) (fp:List Nat) (k:Nat) (o:Bool) (T:Nat) (tk:Option Tok) (kd:Nat) (tx:ByteArray) (ps:Nat),tp = .pointer (some ⟨T,0,none⟩)∧okv = .bool tk.isSome∧Hid (tk.getD Tok.none=⟨kd,tx,ps⟩) ∧
     Blk wr T [.int .u8 kd,.string tx,.int .i64 ps] 187∧XkN s B Bx J fp0 W pre fp k o T tk wr)
   (fun _ okv wr=>XiZ s B wr+B9 okv)
 case atStart=>
   have hz:=hg1.size
   obtain ⟨f',h1,h2,h3⟩:=Cv (f:=2 * s.size+1) Hn1.out (Nat.zero_le _) (by simp)
   refine ⟨[],fp0,k1,o1,w1.heap.size,t1,kd,tx,ps,rfl,rfl,Ht1,Blk.new _ _ _,hS1.alloc _,?_,(hX.grown hg1 (by simp [hne.symm])).alloc _,?_,fun b hb=>.inl hb,?_,ho1,ho2,by omega,by omega,hz,?_,⟨f',h2,by simpa [MS] using h1⟩,?_⟩
   · cases t1 with
     | none=>exact (LN Hn1.out (Nat.zero_le _)).1
     | some t=>exact (M1 Hn1.out (Nat.zero_le _)).1
   · refine hJ.stable _ _ _ _ h0 (by simp;omega) fun b hb=>?_
     have hb':=hltf.out b hb
     rw [Below.heap_alloc _ _ _ (by omega)]
     exact hg1.block b hb' (by rintro h;cases h;exact ho1 hb)
   · intro hm;have:=hltf.out _ hm;omega
   · exact (Frm.of_grown hg1 _ (by simp)).alloc _
   · rintro t rfl;exact ⟨0,false,Hn1.out⟩
 case round=>
   obtain ⟨pre,fp,k,o,T,tk,kd,tx,ps,rfl,rfl,Htk,hT,hinv⟩:=hrel
   clear hS hX hx0 Hn1 Ht1 hS1 hg1
   obtain ⟨hS,hk,hX,hJp,hfp,n1,n2,n3,n4,n5,hTz,hfr,hf,hj⟩:=hinv
   cases tk with
   | none=>
     gi_wp2
     go_end0
     obtain ⟨f,_,hf2⟩:=hf
     refine ⟨⟨_,rfl⟩,hfr,fp,.inl ?_⟩
     · simp at hf2;rw [hf2];exact hJp
   | some t=>
     obtain ⟨j,q,hnt⟩:=hj t rfl
     obtain ⟨f,hf1,hf2⟩:=hf
     obtain ⟨hkd,hsz⟩:=XdT hnt
     simp only [Option.getD_some] at Htk
     obtain rfl:t=⟨kd,tx,ps⟩:=Htk.out
     simp only at hkd hsz
     have c0:=hT.cell 0 rfl
     have c1:=hT.cell 1 rfl
     have c2:=hT.cell 2 rfl
     have Hf2:=Lib.hid hf2
     have Hkd:=Lib.hid hkd
     have Hf1:=Lib.hid hf1
     clear hf2 hkd hf1 hj
     have hpx:pre++[⟨kd,tx,ps⟩] <+: MS s:=⟨_,by rw [Hf2.out];rfl⟩
     have HY:=Lib.hid hY
     have HJ:=Lib.hid hJ
     clear hY hJ
     gi_wp2
     gi_region_with_o (first
       | (gi_at_call 160
          go_must (
            refine (callsIn_wide.2 (Xgy kd tx ps _ Hkd.out (by omega))).mono ?_;rintro e w2 ⟨rfl,hg2⟩
            have hT2:=hT.grown (w:=wr.drew) hg2 (by simp)
            have c02:=hT2.cell 0 rfl
            have c12:=hT2.cell 1 rfl
            have c22:=hT2.cell 2 rfl
            have hJ2:J pre fp w2:=HJ.out.stable _ _ _ _ hJp hg2.size (fun b hb=>hg2.block b (HJ.out.lt _ _ _ hJp b hb) (by simp))
            have HH:=Lib.hid (Xe6 (HY.out pre ⟨kd,tx,ps⟩ w2 fp hJ2 hpx))
            obtain ⟨fn,tmps,assign,body,hy,hR⟩:=HH.out
            simp only [Xfg,Tok.val] at hy))
       | (refine hR.mono ?_;rintro e w3 ⟨c,rfl,hc⟩))
     all_goals
       obtain ⟨fp3,hf3,hm3,hc3⟩:=hc.out
       have hS2:Scan w2 B s k o:=Blk.grown (w:=wr.drew) hS hg2 (by simp)
       have hX2:=Blk.grown (w:=wr.drew) hX hg2 (by simp)
       have hS3:Scan w3 B s k o:=Blk.frm hS2 hf3 n2
       have hX3:=Blk.frm hX2 hf3 n3
       have hT3:=Blk.frm hT2 hf3 n1
       have hfr2:Frm (B :: fp0) W w2:=hfr.drew.trans_new (Frm.of_grown hg2 [] (by simp)) (by simp)
       have hfr3:Frm (B :: fp0) W w3:=hfr2.trans_new hf3 (fun x hx=>by rcases hfp x hx with h | h;exact .inl (by simp [h]);exact .inr h)
       have hz2:=hfr2.size
       have hfp3:∀ b ∈ fp3,b ∈ fp0∨W.heap.size≤b:=fun b hb=>by
         rcases hm3 b hb with h | h
         · exact hfp b h
         · exact .inr (by omega)
       have hlt2:=hS2.lt
       have hltx2:=hX2.lt
       have hltT2:=hT2.lt
       have m1:T ∉ fp3:=fun h=>by rcases hm3 _ h with h | h;exact n1 h;omega
       have m2:B ∉ fp3:=fun h=>by rcases hm3 _ h with h | h;exact n2 h;omega
       have m3:Bx ∉ fp3:=fun h=>by rcases hm3 _ h with h | h;exact n3 h;omega
       cases c with
       | false=>
         gi_wp2
         refine bodyPost_ret (results_none rfl _ _ _) rfl ?_
         exact ⟨⟨_,rfl⟩,hfr3,fp3,.inr ⟨_,hpx,by simpa using hc3⟩⟩
       | true=>
         obtain ⟨t4,k4,o4,hn4⟩:∃ t k' o',QP s (s.size+1) k o=(t,k',o'):=⟨_,_,_,rfl⟩
         obtain ⟨kd4,tx4,ps4,ht4⟩:∃ kd tx ps,t4.getD Tok.none=⟨kd,tx,ps⟩:=⟨_,_,_,rfl⟩
         have Hn4:=Lib.hid hn4
         have Ht4:=Lib.hid ht4
         clear hn4 ht4
         have d0:=hT3.cell 0 rfl
         have d1:=hT3.cell 1 rfl
         have d2:=hT3.cell 2 rfl
         have hx3:=hX3.cell 0 rfl
         have hSa:=hS3.alloc (.cells #[.int .u8 kd,.string tx,.int .i64 ps] 187)
         have hNa:=Blk.new w3 #[.int .u8 kd,.string tx,.int .i64 ps] 187
         have hlt3:=hS3.lt
         have hltx3:=hX3.lt
         have hneT:w3.heap.size ≠ B:=by omega
         have hneX:w3.heap.size ≠ Bx:=by omega
         have hgeW:W.heap.size≤w3.heap.size:=hfr3.size
         gi_wp2_with (gi_at_call 159;refine (callsIn_wide.2 (XfW B s k o _ hSa hs hk t4 k4 o4 Hn4 kd4 tx4 ps4 Ht4)).mono ?_;rintro e w4 ⟨rfl,hS4,hg4⟩;have hN4:=hNa.grown hg4 (by simp;omega);have e0:=hN4.cell 0 rfl;have e1:=hN4.cell 1 rfl;have e2:=hN4.cell 2 rfl;have g0:=hN4.frozen 0;have g1:=hN4.frozen 1;have g2:=hN4.frozen 2)
         go_roundw
         case rel=>
           obtain ⟨f',q1,q2,q3⟩:=Cv Hn4.out hk (Hf1.out rfl)
           have hz4:=hg4.size
           simp at hz4
           have hltp:=HJ.out.lt _ _ _ (show J (pre++[⟨kd,tx,ps⟩]) fp3 w3 from by simpa using hc3)
           have hnT:w3.heap.size ∉ fp3:=fun h=>by have:=hltp _ h;omega
           refine ⟨pre++[⟨kd,tx,ps⟩],fp3,k4,o4,w3.heap.size,t4,kd4,tx4,ps4,rfl,rfl,Ht4,?_,?_⟩
           · exact ((hN4.set 0 _).set 1 _).set 2 _
           · have hS5:Scan (((w4.setCell ⟨w3.heap.size,0,none⟩ (.int .u8 kd4)).setCell ⟨w3.heap.size,1,none⟩ (.string tx4)).setCell ⟨w3.heap.size,2,none⟩ (.int .i64 ps4)) B s k4 o4:=by
               (repeat (first | with_reducible exact hS4 | with_reducible refine Scan.drew ?_ | with_reducible refine Scan.drewN ?_ _ | with_reducible refine Scan.alloc ?_ _ | refine Scan.other ?_ _ hneT.symm _ | refine Scan.at (k:=k) ?_ _ | refine Scan.at' ?_))
             refine ⟨hS5,?_,?_,?_,hfp3,hnT,m2,m3,hneT,by omega,by omega,?_,⟨f',q2,?_⟩,?_⟩
             · cases t4 with
               | none=>exact (LN Hn4.out hk).1
               | some t=>exact (M1 Hn4.out hk).1
             · exact Blk.setOther (Blk.setOther (Blk.setOther ((hX3.alloc _).grown hg4 (by simp [hne.symm])) _ hneX.symm _) _ hneX.symm _) _ hneX.symm _
             · refine HJ.out.stable _ _ _ _ (by simpa using hc3) (by simp;omega) fun b hb=>?_
               have hb':=hltp b hb
               have hb4:b ≠ w3.heap.size:=by omega
               rw [Below.heap_setCell _ _ _ _ hb4,Below.heap_setCell _ _ _ _ hb4,Below.heap_setCell _ _ _ _ hb4];rw [hg4.block b (by simp;omega) (by rintro h;cases h;exact m2 hb),Below.heap_alloc _ _ _ hb']
             · refine Frm.setCell (Frm.setCell (Frm.setCell ?_ (.inr hgeW) _) (.inr hgeW) _) (.inr hgeW) _
               exact (hfr3.alloc _).trans_new (Frm.of_grown hg4 [B] (by simp)) (by simp)
             · rw [Hf2.out];simp;exact q1
             · rintro t rfl;exact ⟨_,_,Hn4.out⟩
         case measure=>
           have hS5:Scan (((w4.setCell ⟨w3.heap.size,0,none⟩ (.int .u8 kd4)).setCell ⟨w3.heap.size,1,none⟩ (.string tx4)).setCell ⟨w3.heap.size,2,none⟩ (.int .i64 ps4)) B s k4 o4:=by
               (repeat (first | with_reducible exact hS4 | with_reducible refine Scan.drew ?_ | with_reducible refine Scan.drewN ?_ _ | with_reducible refine Scan.alloc ?_ _ | refine Scan.other ?_ _ hneT.symm _ | refine Scan.at (k:=k) ?_ _ | refine Scan.at' ?_))
           rw [XdN hS5,XdN hS]
           cases t4 with
           | none=>have:=(LN Hn4.out hk).2;simp [B9];omega
           | some t=>have:=(M1 Hn4.out hk).2;simp [B9];omega
end
section
open Go.RowKit Go.Shelf
attribute [local go_sem] Oper.semAt_some Xe8 Cp Co Ez
def cellsOf (ts:List Tok):List Value:=ts.flatMap Tok.cells
def Qt:List Tok→Option Tok
 | []=>none
 | t :: r=>if JV t=0 then Qt r else some t
def QI (s:ByteArray):Option (Nat × Int):=if 16384 < s.size then some (0,3) else (Qt (MS s)).map fun t=>(t.pos,JV t)
def Xbf (s:ByteArray) (w:World) (e:Ending) (w':World):Prop:=
 Below w.heap.size w w' ∧
   ((∃ p f,QI s=some (p,f)∧e = .returned (.tuple #[.slice none 0 0,.int .i64 (p:Nat),.int .i64 f])) ∨
    (QI s=none∧∃ sv,e = .returned (.tuple #[sv,.int .i64 0,.int .i64 0])∧w'.ownsRow w.heap.size 187 3 sv (MS s).length (cellsOf (MS s))∧(sv = .slice none 0 0 ↔ MS s=[])))
theorem Xej (b:Nat) (w:World):Calls Tryz.prog 137 #[.pointer (some ⟨b,0,none⟩)] w fun e w'=>
   e = .returned (.func (.func 158) #[] #[.pointer (some ⟨w.heap.size,0,none⟩)])∧w.alloc (.cells #[.pointer (some ⟨b,0,none⟩)] 212)=w':=by
 go_enter Tryz.func137,Tryz.ntmps137
 go_wp2
 go_returns
 exact ⟨rfl,rfl⟩
set_option maxHeartbeats 1000000 in
theorem XhN (s:ByteArray) (w:World) (hl:16384 < s.size) (hs:s.size≤maxLen):Calls Tryz.prog 129 #[.string s] w (Xbf s w):=by
 unfold maxLen at hs
 have Hb:Hid (QI s=some (0,3)):=Lib.hid (by unfold QI;rw [if_pos hl])
 go_enter Tryz.func129,Tryz.ntmps129
 go_wp2
 go_returns
 exact ⟨by go_grown,.inl ⟨0,3,Hb.out,rfl⟩⟩
def XkP (R:Nat) (pre:List Tok) (fp:List Nat) (W:World):Prop:=
 ∃ sv,fp=R :: (R+1) :: (R+1+1) :: sv.ownBlock.toList∧Blk W R [sv] 182∧Blk W (R+1) [.int .i64 0] 3∧Blk W (R+1+1) [.int .i64 0] 40 ∧
   W.ownsRow (R+1+1+1+1+1) 187 3 sv pre.length (cellsOf pre)∧(sv = .slice none 0 0 ↔ pre=[])∧Qt pre=none∧R+1+1+1+1+1≤W.heap.size
def Xip (R:Nat) (c:Code) (pre:List Tok) (fp:List Nat) (W:World):Prop:=
 c = .ret∧fp=[R,R+1,R+1+1]∧∃ t,Qt pre=some t∧Blk W R [.slice none 0 0] 182∧Blk W (R+1) [.int .i64 t.pos] 3∧Blk W (R+1+1) [.int .i64 (JV t)] 40
theorem Blk.agree {w w':World} {b:Nat} {cs:List Value} {t:TypeId} (h:Blk w b cs t) (he:w'.heap[b]? = w.heap[b]?):Blk w' b cs t:=he.trans h
theorem Du (R:Nat):Local (XkP R):=by
 refine ⟨?_,?_⟩
 · rintro pre fp W W' ⟨sv,rfl,h1,h2,h3,h4,h5,h6,h7⟩ hz hag
   exact ⟨sv,rfl,h1.agree (hag _ (by simp)),h2.agree (hag _ (by simp)),h3.agree (hag _ (by simp)),EP h4 (fun b hb=>hag b (by simp only [List.mem_cons];exact .inr (.inr (.inr hb)))),h5,h6,Nat.le_trans h7 hz⟩
 · rintro pre fp W ⟨sv,rfl,h1,h2,h3,h4,h5⟩ b hb
   simp only [List.mem_cons] at hb
   rcases hb with rfl | rfl | rfl | hb
   · exact h1.lt
   · exact h2.lt
   · exact h3.lt
   · exact (h4.lt b (by simpa using hb)).2
theorem Xc3 (R:Nat) (c:Code):Local (Xip R c):=by
 refine ⟨?_,?_⟩
 · rintro pre fp W W' ⟨hc,rfl,t,ht,h1,h2,h3⟩ _ hag
   exact ⟨hc,rfl,t,ht,h1.agree (hag _ (by simp)),h2.agree (hag _ (by simp)),h3.agree (hag _ (by simp))⟩
 · rintro pre fp W ⟨hc,rfl,t,ht,h1,h2,h3⟩ b hb
   simp only [List.mem_cons,List.not_mem_nil,or_false] at hb
   rcases hb with rfl | rfl | rfl
   · exact h1.lt
   · exact h2.lt
   · exact h3.lt
theorem NA {pre:List Tok} {t:Tok} (h:Qt pre=none):Qt (pre++[t])=if JV t=0 then none else some t:=by
 induction pre with
 | nil=>simp [Qt]
 | cons a r ih=>
   rw [Qt] at h
   split at h
   · rename_i h0;rw [List.cons_append,Qt,if_pos h0];exact ih h
   · cases h
theorem Lz {pre all:List Tok} {t:Tok} (h:Qt pre=some t) (hp:pre <+: all):Qt all=some t:=by
 obtain ⟨q,rfl⟩:=hp
 induction pre with
 | nil=>simp [Qt] at h
 | cons a r ih=>
   rw [List.cons_append];rw [Qt] at h ⊢
   split at h
   · rename_i h0;rw [if_pos h0];exact ih h
   · rename_i h0;rw [if_neg h0];exact h
theorem XdH (s:ByteArray):(MS s).length≤2 * s.size+1:=Xbo _ _ _ _
theorem Qu (w:World) (a b c:Value) (t:TypeId):∀ j u,[a,b,c][j]? = some u→(w.alloc (.cells #[a,b,c] t)).cell? ((⟨w.heap.size,0,none⟩:Addr).add j)=some u:=by
 intro j u hj
 match j,hj with
 | 0,hj=>simp at hj;subst hj;simp [Addr.add]
 | 1,hj=>simp at hj;subst hj;simp [Addr.add]
 | 2,hj=>simp at hj;subst hj;simp [Addr.add]
 | j+3,hj=>simp at hj
theorem Xhd:((Tryz.prog).info? 187).map (fun i=>(i.zero,i.size,i.bytes))=some (some (.agg #[.int .u8 0,.string ⟨#[]⟩,.int .i64 0]),3,32):=by kernel_rfl
theorem Xci (pre:List Tok) (t:Tok):cellsOf (pre++[t])=cellsOf pre++[.int .u8 t.kind,.string t.text,.int .i64 t.pos]:=by
 simp [cellsOf,Tok.cells]
theorem Xf9 {R:Nat} {pre:List Tok} {t:Tok} {W W₂ w1:World} {sv:Value} {a:Act} {g' cap':Nat} {X:Obj} (hb:Qt (pre++[t])=none) (hsz:W.heap.size≤W₂.heap.size) (hbase:R+1+1+1+1+1≤W₂.heap.size)
   (hR:Blk W₂ R [sv] 182) (hR1:Blk W₂ (R+1) [.int .i64 0] 3) (hR2:Blk W₂ (R+1+1) [.int .i64 0] 40) (hrow:W₂.ownsRow (R+1+1+1+1+1) 187 3 sv pre.length (cellsOf pre))
   (hown':w1.ownsRow (R+1+1+1+1+1) 187 3 (.slice (some ⟨g',0,none⟩) (pre.length+1) cap') (pre.length+1) (cellsOf pre++[.int .u8 t.kind,.string t.text,.int .i64 t.pos]))
   (hgrow:(W₂.alloc X).grownBy w1 sv.ownBlock) (hblk:sv.ownBlock=some g'∨g'=(W₂.alloc X).heap.size) :
   Xgt (XkP R) (Xip R) (pre++[t]) (R :: (R+1) :: (R+1+1) :: sv.ownBlock.toList) W W₂ Exit.normal a (w1.setCell ⟨R,0,none⟩ (.slice (some ⟨g',0,none⟩) (pre.length+1) cap')):=by
 have hrl:=hrow.lt
 have hgl:=(hown'.lt g' rfl).1
 refine ⟨?_,R :: (R+1) :: (R+1+1) :: [g'],?_,.slice (some ⟨g',0,none⟩) (pre.length+1) cap',rfl,?_,?_,?_,?_,by simp,hb,?_⟩
 rotate_right
 · have:=hgrow.size;simp at this ⊢;omega
 · refine Frm.setCell ?_ (.inl (by simp)) _
   exact ((Frm.refl _ _).alloc X).trans_new (Frm.of_grown hgrow (R :: (R+1) :: (R+1+1) :: sv.ownBlock.toList) (fun k hk=>by simp [hk])) (fun x hx=>.inl hx)
 · intro b hb
   simp only [List.mem_cons,List.not_mem_nil,or_false] at hb ⊢
   rcases hb with h | h | h | h
   · exact .inl (.inl h)
   · exact .inl (.inr (.inl h))
   · exact .inl (.inr (.inr (.inl h)))
   · rcases hblk with h1 | h1
     · exact .inl (.inr (.inr (.inr (by simp [h1,h]))))
     · exact .inr (by simp at h1;omega)
 · exact Blk.set1 ((hR.alloc X).grown hgrow (fun e=>by have:=hrl _ e.symm;omega)) _
 · exact Blk.setOther ((hR1.alloc X).grown hgrow (fun e=>by have:=hrl _ e.symm;omega)) _ (by simp) _
 · exact Blk.setOther ((hR2.alloc X).grown hgrow (fun e=>by have:=hrl _ e.symm;omega)) _ (by simp;omega) _
 · rw [Xci,List.length_append,List.length_singleton]
   exact ownsRow_setCell_below hown' (by simp;omega) _
theorem XbI {w:World} {base base':Nat} {e:TypeId} {size:Nat} {v:Value} {n:Nat} {xs:List Value} (h:w.ownsRow base e size v n xs) (hb:base'≤base):w.ownsRow base' e size v n xs:=by
 obtain ⟨h1,h2⟩:=h
 refine ⟨h1,?_⟩
 rcases h2 with h2 | ⟨g,cap,cur,hv,hg,r⟩
 · exact .inl h2
 · exact .inr ⟨g,cap,cur,hv,by omega,r⟩
theorem XbR {w W W':World} {a b c d e:Obj} (_:Frm ([w.heap.size+1+1+1]++[w.heap.size,w.heap.size+1,w.heap.size+1+1]) (((((w.alloc a).alloc b).alloc c).alloc d).alloc e) W)
   (h:Frm ([w.heap.size+1+1+1]++[w.heap.size,w.heap.size+1,w.heap.size+1+1]) (((((w.alloc a).alloc b).alloc c).alloc d).alloc e) W'):Below w.heap.size w W':=by
 refine Below.trans (b:=((((w.alloc a).alloc b).alloc c).alloc d).alloc e) (by go_grown) (h.below (by simp;omega) ?_)
 intro x hx
 simp only [List.cons_append,List.nil_append,List.mem_cons,List.not_mem_nil,or_false] at hx
 omega
theorem XeI {R:Nat} {pre:List Tok} {t:Tok} {W W₂:World} {sv:Value} {a:Act} (hb:Qt (pre++[t])=some t)
   (hR:Blk W₂ R [sv] 182) (hR1:Blk W₂ (R+1) [.int .i64 0] 3) (hR2:Blk W₂ (R+1+1) [.int .i64 0] 40) :
   Xgt (XkP R) (Xip R) (pre++[t]) (R :: (R+1) :: (R+1+1) :: sv.ownBlock.toList) W W₂ Exit.ret a
     (((W₂.setCell ⟨R,0,none⟩ (.slice none 0 0)).setCell ⟨R+1,0,none⟩ (.int .i64 t.pos)).setCell ⟨R+1+1,0,none⟩ (.int .i64 (JV t))).drew:=by
 refine ⟨?_,[R,R+1,R+1+1],fun b hb=>.inl ?_,rfl,rfl,t,hb,?_,?_,?_⟩
 · (repeat (first | with_reducible exact Frm.refl _ _ | with_reducible refine Frm.drew ?_ | with_reducible refine Frm.drewN ?_ _ | with_reducible refine Frm.alloc ?_ _ | with_reducible refine Frm.setCell ?_ (.inl (by simp)) _))
 · simp only [List.mem_cons,List.not_mem_nil,or_false] at hb ⊢
   rcases hb with h | h | h
   · exact .inl h
   · exact .inr (.inl h)
   · exact .inr (.inr (.inl h))
 · (repeat (first | with_reducible exact hR | with_reducible refine Blk.drew ?_ | with_reducible refine Blk.drewN ?_ _ | with_reducible refine Blk.alloc ?_ _ | with_reducible refine Blk.set1 (x:=sv) ?_ _ | with_reducible refine Blk.setOther ?_ _ (by first | (simp;done) | (simp;omega)) _))
 · (repeat (first | with_reducible exact hR1 | with_reducible refine Blk.drew ?_ | with_reducible refine Blk.drewN ?_ _ | with_reducible refine Blk.alloc ?_ _ | with_reducible refine Blk.set1 (x:=.int .i64 0) ?_ _ | with_reducible refine Blk.setOther ?_ _ (by first | (simp;done) | (simp;omega)) _))
 · (repeat (first | with_reducible exact hR2 | with_reducible refine Blk.drew ?_ | with_reducible refine Blk.drewN ?_ _ | with_reducible refine Blk.alloc ?_ _ | with_reducible refine Blk.set1 (x:=.int .i64 0) ?_ _ | with_reducible refine Blk.setOther ?_ _ (by first | (simp;done) | (simp;omega)) _))
set_option maxRecDepth 100000 in
set_option maxHeartbeats 4000000 in
theorem Xkn (n:Nat) (s:ByteArray) (w:World) (hs:s.size≤16384):CallsIn Fence.wide n Tryz.prog 129 #[.string s] w (Xbf s w):=by
 have hd:decide (16384 < (s.size:Int))=false:=by simp;omega
 have hmix:(Tryz.prog).follows .mixedOrders=true:=by kernel_rfl
 refine callsIn_of_wp_marks Tryz.func129 rfl trivial ?_ rfl
 simp only [Tryz.ntmps129,List.size_toArray,List.length_cons,List.length_nil,Nat.reduceAdd,Nat.reduceSub,Array.replicate_succ,Array.replicate_zero,List.push_toArray,List.append_toArray,List.nil_append,List.cons_append]
 gi_wp2_with (gi_at_call 137;refine (callsIn_wide.2 (Xej _ _)).mono ?_;rintro e w1 ⟨rfl,rfl⟩)
 refine E7 (α:=Tok) (all:=MS s) (own:=[w.heap.size+1+1+1,w.heap.size+1+1+1+1]) (wr:=[w.heap.size+1+1+1]) rfl (enters_of Tryz.func158 (by kernel_rfl) rfl) (XcD _ _ _ s hs _ ?c1 ?c2 (by simp)) (fun _=>rfl)
   (XkP w.heap.size) (Xip w.heap.size) (Du _) (Xc3 _) [w.heap.size,w.heap.size+1,w.heap.size+1+1] ?start ?own
   (fun x W a₁ W₁=>a₁ = { tmps:=#[.string s,undef,.pointer (some ⟨w.heap.size,0,none⟩),.pointer (some ⟨w.heap.size+1,0,none⟩),.pointer (some ⟨w.heap.size+1+1,0,none⟩),.pointer (some ⟨w.heap.size+1+1+1,0,none⟩),.pointer (some ⟨W.heap.size,0,none⟩),
     .int .i64 (JV x),.string s,.int .i64 s.size,.bool false,.string s,.agg #[.string s,.int .i64 0],.agg #[.string s,.int .i64 0,.bool false],.func (.func 158) #[] #[.pointer (some ⟨w.heap.size+1+1+1+1,0,none⟩)],
     .agg #[.int .u8 x.kind,.string x.text,.int .i64 x.pos],.int .i64 (JV x),undef,undef,undef,undef,undef,undef,undef,undef,undef,undef],defers:=[] } ∧
     W₁=W.alloc (.cells #[.int .u8 x.kind,.string x.text,.int .i64 x.pos] 187)) ?assign ?hAx ?body ?done ?stop
 case c1=>exact (Blk.newAt (by simp)).alloc _
 case c2=>exact Blk.newAt (by simp)
 case start=>exact ⟨.slice none 0 0,rfl,((((Blk.newAt (by simp)).alloc _).alloc _).alloc _).alloc _,(((Blk.newAt (by simp)).alloc _).alloc _).alloc _,((Blk.newAt (by simp)).alloc _).alloc _,World.ownsRow_nil _ _ _ _,by simp,rfl,by simp⟩
 case own=>simp;omega
 case hAx=>rintro x W a₁ W₁ ⟨_,rfl⟩;exact (Frm.refl _ _).alloc _
 case assign=>
   intro l x W K hK
   obtain ⟨kd,tx,ps⟩:=x
   simp only [Xfg,Tok.val]
   have HK:=Lib.hid hK
   clear hK
   gi_wp2
   exact HK.out _ _ ⟨rfl,rfl⟩
 case body=>
   rintro l pre ⟨kd,tx,ps⟩ W W₁ W₂ a₁ fp hI hpx ⟨rfl,rfl⟩ hl hz hlf hlW
   simp only at *
   have hT:Blk W₂ W.heap.size [.int .u8 kd,.string tx,.int .i64 ps] 187:=(Blk.new W #[.int .u8 kd,.string tx,.int .i64 ps] _).frm hl (by simp;omega)
   have hI2:XkP w.heap.size pre fp W₂:=(Du _).stable _ _ W _ hI (by have:=hl.size;simp at this;omega) fun b hb=>by
     have hb':=(Du _).lt _ _ _ hI b hb
     exact (hl.block b (by simp;omega) (by rintro hm;simp at hm;subst hm;exact hlf hb)).trans (Below.heap_alloc _ _ _ hb')
   obtain ⟨sv,rfl,hR,hR1,hR2,hrow,hnil,hbad,hbase⟩:=hI2
   have hb2:=NA (t:=⟨kd,tx,ps⟩) hbad
   have hlen:=hpx.length_le
   have hlen2:=XdH s
   simp only [List.length_append,List.length_cons,List.length_nil] at hlen
   have hplen:pre.length≤40000:=by omega
   have hrl:=hrow.lt
   have c0:=hT.cell 0 rfl
   have c1:=hT.cell 1 rfl
   have c2:=hT.cell 2 rfl
   have r0:=hR.cell 0 rfl
   have r1:=hR1.cell 0 rfl
   have r2:=hR2.cell 0 rfl
   have f0:=hR.frozen 0
   have f1:=hR1.frozen 0
   have f2:=hR2.frozen 0
   have Hsz:W.heap.size≤W₂.heap.size:=by have:=hl.size;simp at this;omega
   have HI:=Lib.hid hI
   have Hl:=Lib.hid hl
   have Hz:=Lib.hid hz
   clear hI hl hz
   by_cases hf:JV ⟨kd,tx,ps⟩=0
   · rw [hf]
     rw [if_pos hf] at hb2
     obtain ⟨i0,hi,hz0,hz1,hz2⟩:=info_parts Xhd
     have Hb:=Lib.hid hb2
     have Hn:=Lib.hid hnil
     have Hbad:=Lib.hid hbad
     clear hf hb2 hnil hbad
     gi_wp2_with (gi_at_builtin;go_must (refine Ey _ rfl _ _ 182 rfl (w.heap.size+1+1+1+1+1) 187 i0 (.agg #[.int .u8 0,.string ⟨#[]⟩,.int .i64 0]) 3 32 Tryz.underlying182 hi hz0 hz1 hz2 rfl (by decide) _ _ _ rfl (hrow.alloc _) ⟨W₂.heap.size,0,none⟩ 1 1 [.int .u8 kd,.string tx,.int .i64 ps] rfl rfl (Qu _ _ _ _ _) (by simp [Value.oneCell']) (by unfold maxLen;omega) (by omega) (by simp;omega) (by decide) ?_;intro g' cap' w1 hown' hgrow hblk;have hR':=(hR.alloc (.cells #[.int .u8 kd,.string tx,.int .i64 ps] 187)).grown hgrow (fun e=>by have:=hrl _ e.symm;omega);have d0:=hR'.cell 0 rfl;have e0:=hR'.frozen 0))
     exact Xf9 (t:=⟨kd,tx,ps⟩) Hb.out Hsz hbase hR hR1 hR2 hrow hown' hgrow hblk
   · have hf':(JV ⟨kd,tx,ps⟩ != 0)=true:=by simpa using hf
     rw [if_neg hf] at hb2
     have Hb:=Lib.hid hb2
     have Hn:=Lib.hid hnil
     have Hbad:=Lib.hid hbad
     clear hf hb2 hnil hbad
     gi_wp2
     gi_region_with_o (fail)
     all_goals
       gi_wp2
       exact XeI (sv:=sv) (by rw [Hb.out]) hR hR1 hR2
 case done=>
   intro D fp W hI hK hfr hD hDf
   obtain ⟨sv,rfl,hR,hR1,hR2,hrow,hnil,hbad,hbase⟩:=hI
   simp only [List.mem_cons,not_or] at hDf
   obtain ⟨d0,d1,d2,d3⟩:=hDf
   have hlb:QI s=none:=by unfold QI;rw [if_neg (by omega),hbad];rfl
   have Hfr:=Lib.hid hfr
   have Hn:=Lib.hid hnil
   have Hlb:=Lib.hid hlb
   have Hdm:=Lib.hid d3
   have HrW:=Lib.hid hrow
   have hsv:∃ a n c,sv = .slice a n c:=by
     rcases hrow.2 with ⟨rfl,_⟩ | ⟨g,cap,cur,rfl,_⟩ <;> exact ⟨_,_,_,rfl⟩
   obtain ⟨ap,an,ac,rfl⟩:=hsv
   have c0:=hR.cell 0 rfl
   have c1:=hR1.cell 0 rfl
   have c2:=hR2.cell 0 rfl
   have f0:=hR.frozen 0
   have f1:=hR1.frozen 0
   have f2:=hR2.frozen 0
   clear hnil hbad hlb hfr d3 hrow
   gi_wp2
   have hK3:(((W.setCell ⟨w.heap.size,0,none⟩ (.slice ap an ac)).setCell ⟨w.heap.size+1,0,none⟩ (.int .i64 0)).setCell ⟨w.heap.size+1+1,0,none⟩ (.int .i64 0)).heap[D]? = some (.deferred (some [])):=by
     rw [Below.heap_setCell _ _ _ _ d2,Below.heap_setCell _ _ _ _ d1,Below.heap_setCell _ _ _ _ d0];exact hK
   refine ⟨by simp,.inl ⟨_,_,rfl,run_takeDeferred hK3,?_⟩⟩
   have e0:(((((W.setCell ⟨w.heap.size,0,none⟩ (.slice ap an ac)).setCell ⟨w.heap.size+1,0,none⟩ (.int .i64 0)).setCell ⟨w.heap.size+1+1,0,none⟩ (.int .i64 0)).putObj D (.deferred none)).cell? ⟨w.heap.size,0,none⟩=some (.slice ap an ac)):=
     Blk.cell (Blk.agree (w:=((W.setCell _ _).setCell _ _).setCell _ _) (show Blk _ _ [.slice ap an ac] 182 by (repeat (first | with_reducible exact hR | with_reducible refine Blk.drew ?_ | with_reducible refine Blk.drewN ?_ _ | with_reducible refine Blk.alloc ?_ _ | with_reducible refine Blk.set1 (x:=.slice ap an ac) ?_ _ | with_reducible refine Blk.setOther ?_ _ (by first | (simp;done) | (simp;omega)) _))) (World.putObj_heap_other (Ne.symm d0))) 0 rfl
   have e1:(((((W.setCell ⟨w.heap.size,0,none⟩ (.slice ap an ac)).setCell ⟨w.heap.size+1,0,none⟩ (.int .i64 0)).setCell ⟨w.heap.size+1+1,0,none⟩ (.int .i64 0)).putObj D (.deferred none)).cell? ⟨w.heap.size+1,0,none⟩=some (.int .i64 0)):=
     Blk.cell (Blk.agree (w:=((W.setCell _ _).setCell _ _).setCell _ _) (show Blk _ _ [.int .i64 0] 3 by (repeat (first | with_reducible exact hR1 | with_reducible refine Blk.drew ?_ | with_reducible refine Blk.drewN ?_ _ | with_reducible refine Blk.alloc ?_ _ | with_reducible refine Blk.set1 (x:=.int .i64 0) ?_ _ | with_reducible refine Blk.setOther ?_ _ (by first | (simp;done) | (simp;omega)) _))) (World.putObj_heap_other (Ne.symm d1))) 0 rfl
   have e2:(((((W.setCell ⟨w.heap.size,0,none⟩ (.slice ap an ac)).setCell ⟨w.heap.size+1,0,none⟩ (.int .i64 0)).setCell ⟨w.heap.size+1+1,0,none⟩ (.int .i64 0)).putObj D (.deferred none)).cell? ⟨w.heap.size+1+1,0,none⟩=some (.int .i64 0)):=
     Blk.cell (Blk.agree (w:=((W.setCell _ _).setCell _ _).setCell _ _) (show Blk _ _ [.int .i64 0] 40 by (repeat (first | with_reducible exact hR2 | with_reducible refine Blk.drew ?_ | with_reducible refine Blk.drewN ?_ _ | with_reducible refine Blk.alloc ?_ _ | with_reducible refine Blk.set1 (x:=.int .i64 0) ?_ _ | with_reducible refine Blk.setOther ?_ _ (by first | (simp;done) | (simp;omega)) _))) (World.putObj_heap_other (Ne.symm d2))) 0 rfl
   refine ⟨.tuple #[.slice ap an ac,.int .i64 0,.int .i64 0],by simp [results,Tryz.results129,go_sem,e0,e1,e2],?_,.inr ⟨Hlb.out,.slice ap an ac,rfl,?_,Hn.out⟩⟩
   · refine XbR (W:=W) Hfr.out ?_
     refine Frm.putObj ?_ (.inr hD) _
     exact (((Hfr.out.setCell (.inl (by simp)) _).setCell (.inl (by simp)) _).setCell (.inl (by simp)) _)
   · refine EP (XbI HrW.out (by omega)) fun b hb=>?_
     have h1:=HrW.out.lt b (by simpa using hb)
     have h2:b ≠ D:=fun h=>Hdm.out (h ▸ hb)
     rw [World.putObj_heap_other h2,Below.heap_setCell _ _ _ _ (by simp;omega),Below.heap_setCell _ _ _ _ (by simp;omega),Below.heap_setCell _ _ _ _ (by simp;omega)]
 case stop=>
   rintro D c pre fp W hpre ⟨rfl,rfl,t,ht,hR,hR1,hR2⟩ hK hfr hD hDf
   simp only [List.mem_cons,List.not_mem_nil,or_false,not_or] at hDf
   obtain ⟨d0,d1,d2⟩:=hDf
   have hlb:QI s=some (t.pos,JV t):=by unfold QI;rw [if_neg (by omega),Lz ht hpre];rfl
   gi_wp2
   refine ⟨by simp,.inl ⟨_,_,rfl,run_takeDeferred hK,?_⟩⟩
   have e0:=Blk.cell (hR.agree (World.putObj_heap_other (o:=.deferred none) (Ne.symm d0))) 0 rfl
   have e1:=Blk.cell (hR1.agree (World.putObj_heap_other (o:=.deferred none) (Ne.symm d1))) 0 rfl
   have e2:=Blk.cell (hR2.agree (World.putObj_heap_other (o:=.deferred none) (Ne.symm d2))) 0 rfl
   refine ⟨.tuple #[.slice none 0 0,.int .i64 t.pos,.int .i64 (JV t)],by simp [results,Tryz.results129,go_sem,e0,e1,e2],?_,.inl ⟨_,_,hlb,rfl⟩⟩
   exact XbR (W:=W) hfr (hfr.putObj (.inr hD) _)
theorem Xjm (s:ByteArray) (w:World) (hs:s.size≤maxLen):Calls Tryz.prog 129 #[.string s] w (Xbf s w):=by
 by_cases hl:16384 < s.size
 · exact XhN s w hl hs
 · exact (callsIn_wide (n:=9)).1 (Xkn 9 s w (by omega))
end
theorem CR {s:ByteArray}:∀ {f g k o},k≤s.size→s.size < f+k→s.size < g+k→QP s f k o=QP s g k o
 | 0,g,k,o,hk,hf,hg=>by omega
 | f+1,0,k,o,hk,hf,hg=>by omega
 | f+1,g+1,k,o,hk,hf,hg=>by
   have h1:=EO s k
   rw [QP,QP]
   split
   · rfl
   · split
     · rfl
     · split
       · rfl
       · exact CR (by omega) (by omega) (by omega)
theorem Cw {s:ByteArray}:∀ {f g k o},k≤s.size→2 * (s.size - k)+o.toNat < f→2 * (s.size - k)+o.toNat < g→LT s f k o=LT s g k o
 | 0,g,k,o,hk,hf,hg=>by omega
 | f+1,0,k,o,hk,hf,hg=>by omega
 | f+1,g+1,k,o,hk,hf,hg=>by
   rw [LT,LT]
   split
   · rename_i t k' o' hn
     obtain ⟨h1,h2⟩:=M1 hn hk
     rw [Cw (f:=f) (g:=g) h1 (by omega) (by omega)]
   · rfl
def Qv (s:ByteArray) (k:Nat) (o:Bool):List Tok:=LT s (2 * (s.size - k)+o.toNat+1) k o
theorem D3 {s:ByteArray} {k:Nat} {o:Bool} (hk:k≤s.size):Qv s k o=(match QP s (s.size+1) k o with | (some t,k',o')=>t :: Qv s k' o' | (none,_,_)=>[]):=by
 rcases hn:QP s (s.size+1) k o with ⟨_ | t,k',o'⟩
 · simp [Qv,LT,hn]
 · obtain ⟨h1,h2⟩:=M1 hn hk
   have e1:Qv s k o=t :: LT s (2 * (s.size - k)+o.toNat) k' o':=by rw [Qv,LT,hn]
   rw [e1,Cw h1 h2 (Nat.lt_succ_self _)]
   rfl
theorem Dk {s:ByteArray} {k:Nat} {o:Bool} {t:Tok} {k':Nat} {o':Bool} (hk:k≤s.size) (h:QP s (s.size+1) k o=(some t,k',o')):Qv s k o=t :: Qv s k' o':=by
 rw [D3 hk,h]
theorem CQ {s:ByteArray} {k:Nat} {o:Bool} {k':Nat} {o':Bool} (hk:k≤s.size) (h:QP s (s.size+1) k o=(none,k',o')):Qv s k o=[]:=by
 rw [D3 hk,h]
theorem Dl {s:ByteArray} {k j:Nat} {o q:Bool} (hk:k≤s.size) (hj:j≤s.size) (h:QP s (s.size+1) k o=QP s (s.size+1) j q):Qv s k o=Qv s j q:=by
 rw [D3 hk,D3 hj,h]
theorem Xfe (s:ByteArray):MS s=Qv s 0 false:=by
 unfold MS Qv;simp
theorem XbH {s:ByteArray} {k:Nat} (h:k < s.size) (hc:cls s[k].toNat=1):QE s k=QE s (k+1):=by
 unfold QE
 rw [Qg h (by simpa using hc)]
theorem M0 {s:ByteArray} {k:Nat} (hb:∀ h:k < s.size,cls s[k].toNat ≠ 1∧cls s[k].toNat ≠ 7):QE s k=k:=by
 unfold QE
 by_cases h:k < s.size
 · obtain ⟨h1,h7⟩:=hb h
   rw [QB h (by simpa using h1)]
   simp [h,h7]
 · rw [QW (by omega)];simp [h]
theorem XcV {s:ByteArray} {k:Nat} (h:k < s.size) (hc:cls s[k].toNat=7):QE s k=J6 (fun n=>cls n != 2) s k:=by
 unfold QE
 rw [QB h (by simp [hc])]
 simp [h,hc]
theorem Cg {p:Int→Bool} {s:ByteArray} {a:Nat} (h:J6 p s a < s.size):p s[J6 p s a].toNat=false:=by
 have key:∀ f a,s.size≤a+f→∀ h:ext p s f a < s.size,p s[ext p s f a].toNat=false:=by
   intro f
   induction f with
   | zero=>intro a hf h;simp only [ext] at h;omega
   | succ f ih=>
     intro a hf h
     by_cases ha:a < s.size
     · by_cases hp:p s[a].toNat=true
       · have he:ext p s (f+1) a=ext p s f (a+1):=by simp [ext,ha,hp]
         have:=ih (a+1) (by omega) (by rw [← he];exact h)
         simp only [he];exact this
       · have he:ext p s (f+1) a=a:=by simp [ext,ha,hp]
         simp only [he];simpa using hp
     · have he:ext p s (f+1) a=a:=by simp [ext,ha]
       rw [he] at h;omega
 exact key _ a (by omega) h
theorem Xev {s:ByteArray} {k:Nat} (o:Bool) (h:k < s.size) (hc:cls s[k].toNat=1):Qv s k o=Qv s (k+1) o:=by
 refine Dl (by omega) (by omega) ?_;rw [QP,XbH h hc]
 conv=>rhs;rw [QP]
theorem XfC {s:ByteArray} {k:Nat} (o:Bool) (h:k < s.size) (hc:cls s[k].toNat=7):Qv s k o=Qv s (J6 (fun n=>cls n != 2) s k) o:=by
 refine Dl (by omega) (LK _ _ _ (by omega)) ?_
 have hj:QE s (J6 (fun n=>cls n != 2) s k)=J6 (fun n=>cls n != 2) s k:=M0 fun hh=>by
   have:=Cg hh
   simp at this
   omega
 rw [QP,XcV h hc,QP,hj]
theorem XcQ {s:ByteArray} {k:Nat} (o:Bool) (h:k < s.size) (hc:cls s[k].toNat=2):Qv s k o=(if o then [⟨4,ByteArray.empty,k⟩] else [])++Qv s (k+1) false:=by
 have hp:QE s k=k:=M0 fun _=>by omega
 have hca:Nx s k=2:=by unfold Nx;rw [dif_pos h,hc]
 cases o with
 | true=>
   rw [Dk (t:=⟨4,ByteArray.empty,k⟩) (k':=k+1) (o':=false) (by omega) (by rw [QP,hp,hca];simp;omega)]
   simp
 | false=>
   have:QP s (s.size+1) k false=QP s (s.size+1) (k+1) false:=by
     rw [QP,hp,hca]
     simp only [ne_eq,not_true_eq_false,if_false,Bool.false_eq_true]
     rw [if_neg (by omega)]
     exact CR (by omega) (by omega) (by omega)
   rw [Dl (by omega) (by omega) this]
   simp
theorem Xhv {s:ByteArray} {k:Nat} (o:Bool) (h:k < s.size) (h1:cls s[k].toNat ≠ 1) (h2:cls s[k].toNat ≠ 2) (h7:cls s[k].toNat ≠ 7):Qv s k o=MU s k :: Qv s (NG s k) true:=by
 have hp:QE s k=k:=M0 fun _=>⟨h1,h7⟩
 have hca:Nx s k ≠ 2:=by unfold Nx;rw [dif_pos h];exact h2
 exact Dk (by omega) (by rw [QP,hp,if_pos hca])
theorem XaA {s:ByteArray} (o:Bool):Qv s s.size o=if o then [⟨4,ByteArray.empty,s.size⟩] else []:=by
 have hp:QE s s.size=s.size:=M0 fun h=>by omega
 have hca:Nx s s.size=2:=by unfold Nx;rw [dif_neg (by omega)]
 cases o with
 | true=>
   rw [Dk (t:=⟨4,ByteArray.empty,s.size⟩) (k':=s.size) (o':=false) (by omega) (by rw [QP,hp,hca];simp)]
   have:Qv s s.size false=[]:=CQ (k':=s.size) (o':=false) (by omega) (by rw [QP,hp,hca];simp)
   rw [this];simp
 | false=>
   exact CQ (k':=s.size) (o':=false) (by omega) (by rw [QP,hp,hca];simp)
def QK (pre:List Tok):Bool:=match pre.getLast? with | some t=>t.kind != 4 | none=>false
theorem Ei (pre:List Tok) (t:Tok):QK (pre++[t])=(t.kind != 4):=by simp [QK]
end Go.Proofs.YtcpehikcegoojaaGreatDoor
