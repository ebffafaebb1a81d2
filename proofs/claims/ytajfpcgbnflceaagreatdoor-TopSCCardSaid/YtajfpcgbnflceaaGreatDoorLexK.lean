/- Plain Lean: how far runs of bytes go, where a word, a NP, a sign ends. And more of this kind. Conditions: those of each theorem. -/
import Derived.Test.YtajfpcgbnflceaaGreatDoorVcK
import Derived.Deep.LoopGhost
import Derived.Handy
import Derived.OwnWalkIn
import Derived.Lib.AppendStr
import Derived.RangeFuncNested
import Derived.RangeFuncBound
import Derived.RangeFuncCalls
import Derived.RangeFuncLeaves
import Derived.Shelf.Abstract
import Derived.Shelf.RegionOpen
import Derived.TacticsInMore
import Derived.LoopNIn
import Derived.LoopIn
set_option linter.unusedSimpArgs false
set_option linter.unusedVariables false
namespace Go.Proofs.YtajfpcgbnflceaaGreatDoor
open Go.Proofs.Tryz
open Go.RowKit
set_option maxRecDepth 100000
set_option maxHeartbeats 4000000
variable{W a w w':World}{b i k n:Nat}{fp:List Nat}{o:Bool}{s:ByteArray}
def cls(n:Int):Int:=
 if 97<=n/\n<=122\/65<=n/\n<=90 then 3
 else if 48<=n/\n<=57 then 4
 else if n=32\/n=9 then 1
 else if n=10 then 2
 else if n=95 then 5
 else if n=35 then 7
 else if n=61\/n=43\/n=45\/n=94\/n=38\/n=124\/n=33\/n=40\/n=41\/n=58\/n=60 then 6
 else 0
def XgP(n:Int):Bool:=cls n==3||cls n==4||cls n==5
def ext(p:Int->Bool)(s:ByteArray):Nat->Nat->Nat
 |0,i=>i
 |f+1,i=>if h:i<s.size then(if p s[i].toNat then ext p s f (i+1)else i)else i
def Gl(p:Int->Bool)(s:ByteArray)(i:Nat):Nat:=ext p s (s.size-i) i
theorem Jw{p:Int->Bool}(h:s.size<=i):Gl p s i=i:=by
 unfold Gl;rw[Nat.sub_eq_zero_of_le h];rfl
theorem GA{p:Int->Bool}(h:i<s.size)(b:p s[i].toNat=true):Gl p s i=Gl p s (i+1):=by
 unfold Gl
 obtain⟨f,c⟩:∃f,s.size-i=f+1:=⟨s.size-i-1,O⟩
 rw[c,show s.size-(i+1)=f from by omega]
 simp[ext,h,b]
theorem GV{p:Int->Bool}(h:i<s.size)(b:p s[i].toNat=false):Gl p s i=i:=by
 unfold Gl
 obtain⟨f,c⟩:∃f,s.size-i=f+1:=⟨s.size-i-1,O⟩
 rw[c]
 simp[ext,h,b]
theorem XnS(p:Int->Bool)(s:ByteArray):∀f i,i<=ext p s f i
 |0,i=>AI _
 |f+1,i=>by
  unfold ext;split
  ·split
   ·exact AW O (XnS p s f (i+1))
   ·exact AI _
  ·exact AI _
theorem XnR(p:Int->Bool)(s:ByteArray):∀f i,i<=s.size->ext p s f i<=s.size
 |0,i,h=>h
 |f+1,i,h=>by
  unfold ext;split
  ·split
   ·exact XnR p s f (i+1) O
   ·exact h
  ·exact h
theorem Ez(p:Int->Bool)(s:ByteArray)(i:Nat):i<=Gl p s i:=XnS _ _ _ _
theorem Ey(p:Int->Bool)(s:ByteArray)(i:Nat)(h:i<=s.size):Gl p s i<=s.size:=XnR _ _ _ _ h
def Gq(s:ByteArray)(k:Nat):Nat:=
 let j:=Gl (λn=>cls n==1) s k
 if h:j<s.size then(if cls s[j].toNat==7 then Gl (λn=>cls n != 2) s j else j)else j
def BB(s:ByteArray)(k:Nat):Nat:=Gl XgP s (k+1)
def J1(n:Int):Bool:=cls n==4
def Xgr(s:ByteArray)(k:Nat):Nat:=Gl J1 s (k+1)
def Xme(s:ByteArray)(k:Nat):Bool:=
 if h:k+1<s.size then((s[k].toNat:Int)==61||(s[k].toNat:Int)==33)&&(s[k+1].toNat:Int)==61 else false
def LY(s:ByteArray)(k:Nat):Nat:=if Xme s k then k+2 else k+1
theorem isDig_iff{n:Int}:J1 n=true↔48<=n/\n<=57:=by
 unfold J1 cls;rw[beq_iff_eq]
 constructor
 ·intro h;repeat' split at h
  all_goals omega
 ·intro h;rw[if_neg O,if_pos h]
def keptL:List (List UInt8):=[[116,101,115,116],[105,110,105,116],[116,104,114,101,97,100],[115,111,109,101],[110,111,110,101],[97,108,108],[97,99,113],[114,101,108],[115,119,97,112],[102,101,116,99,104],[99,97,115],[102,101,110,99,101],[108,111,97,100,115],[115,116,111,114,101,115],[115,107,105,112],[105,102],[116,114,117,101]]
def XnH(s:ByteArray):Bool:=keptL.any (s.toList == ·)
def J6(s:ByteArray):Nat->Nat
 |0=>0
 |i+1=>10*J6 s i+(if h:i<s.size then s[i].toNat-48 else 0)
def Lv(s:ByteArray):Bool:=
 if h:1<=s.size/\s.size<=3 then !((s[0].toNat:Int)==48&&decide (1<s.size))&&Gl J1 s 0==s.size&&decide (J6 s s.size<=255)else false
def Xp8(s:ByteArray):Nat:=if Lv s then J6 s s.size else 0
theorem Xf0(h:i<s.size)(hd:J1 s[i].toNat=true):(J6 s (i+1):Int)=10*(J6 s i:Int)+((s[i].toNat:Int)-48):=by
 have:=isDig_iff.1 hd
 rw[J6,dif_pos h];omega
def Mi(s:ByteArray):Nat->Nat
 |0=>0
 |i+1=>Mi s i+(if h:0<i/\i<s.size then(if J1 s[i].toNat then 1 else 0)else 0)
theorem LO(s:ByteArray):∀i,Mi s i<=i-1
 |0=>AI _
 |1=>by simp[Mi]
 |i+2=>by
  have:=LO s (i+1)
  rw[Mi];split
  ·split<;>omega
  ·omega
theorem XfC(s:ByteArray):∀f i,1<=i->i+f=s.size->((Gl J1 s i=s.size/\Mi s i=i-1)↔Mi s s.size=s.size-1)
 |0,i,m,j=>by
  have:i=s.size:=O
  subst this;rw[Jw (AI _)];simp
 |f+1,i,m,j=>by
  have g:=XfC s f (i+1) O O
  have c:i<s.size:=O
  by_cases d:J1 s[i].toNat=true
  ·rw[GA c d]
   have:Mi s (i+1)=Mi s i+1:=by rw[Mi,dif_pos ⟨O,c⟩,if_pos d]
   rw[<-g,this]
   have:=LO s i
   constructor
   ·rintro⟨a,b⟩;exact⟨a,O⟩
   ·rintro⟨a,b⟩;exact⟨a,O⟩
  ·have e:J1 s[i].toNat=false:=by simpa using d
   rw[GV c e]
   have:Mi s (i+1)=Mi s i:=by rw[Mi,dif_pos ⟨O,c⟩,if_neg d];rfl
   have:=LO s i
   rw[<-g]
   constructor
   ·rintro⟨a,b⟩;omega
   ·rintro⟨a,b⟩;omega
def Xc8(s:ByteArray):Bool:=Gl J1 s 1==s.size
theorem Xc7(h:1<=s.size):Xc8 s=(Mi s s.size==s.size-1):=by
 have:=XfC s (s.size-1) 1 (AI _) O
 have b:Mi s 1=0:=by simp[Mi]
 rw[b]at this
 unfold Xc8
 rw[HE,beq_iff_eq,beq_iff_eq,<-this]
 simp
def NQ(s:ByteArray):Bool:=
 if h:1<=s.size/\s.size<=16 then cls s[0].toNat==3 && !XnH s&&Gl XgP s 1==s.size && !((s[0].toNat:Int)==114&&decide (1<s.size)&&Xc8 s)else false
section
theorem V9(n:Int)(w:World):
 Calls prog 93 #[.int .u8 n] w λe w'=>e=.returned (Ve (cls n))/\w=w':=by
 go_enter func93,ntmps93
 go_wp2
 all_goals
  go_ret
  refine⟨Gw ?_,Z⟩
  try simp only[beq_iff_eq,beq_eq_false_iff_ne]at *
  unfold cls
  repeat' split
  all_goals omega
theorem Qf(n:Int)(w:World)(c:Bool)(b:XgP n=c):
 Calls prog 95 #[.int .u8 n] w λe w'=>e=.returned (.bool c)/\w=w':=by
 have d:=Lib.hid b
 clear b
 go_enter func95,ntmps95
 go_wp2_with (go_at_call 93;refine(V9 _ _).mono ?_;rintro e w' ⟨rfl,rfl⟩)
 all_goals
  go_ret
  refine⟨GF ?_,Z⟩
  rw[<-d.out];simp[XgP, *]
def Scan(w:World)(b:Nat)(s:ByteArray)(k:Nat)(o:Bool):Prop:=Blk w b [.string s,.int .i64 k,.bool o] 191
theorem Scan.at(h:Scan w b s k o)(j:Nat):Scan (w.setCell ⟨b,1,none⟩ (Ve j)) b s j o:=Blk.set h 1 _
theorem Scan.drewN(h:Scan w b s k o)(n:Nat):Scan (w.drewN n) b s k o:=h
theorem Scan.at'(h:Scan w b s k o):Scan (w.setCell ⟨b,1,none⟩ (Ve (k+1))) b s (k+1) o:=by
 have:=h.at (k+1);rwa [Int.natCast_add]at this
theorem GJ(b:Nat)(s:ByteArray)(k:Nat)(o:Bool)(w:World)(d:Scan w b s k o)(c:Bool)(g:decide (s.size<=k)=c):
 Calls prog 208 #[Vc b 0] w λe w'=>e=.returned (.bool c)/\∃n,w'=w.drewN n:=by
 have m:=d.cell 0 Z
 have j:=d.cell 1 Z
 have i:=Lib.hid g
 clear g d
 go_enter func208,ntmps208
 go_wp2
 go_quiet (fail)
 go_wp2
 go_ret
 exact⟨GF (by rw[<-i.out]),_,Z⟩
theorem Lb(b:Nat)(s:ByteArray)(k:Nat)(o:Bool)(w:World)(d:Scan w b s k o)(c:Bool)(i:(if h:k<s.size then cls s[k].toNat==2 else true)=c):
 Calls prog 206 #[Vc b 0] w λe w'=>e=.returned (.bool c)/\∃n,w'=w.drewN n:=by
 have q:=d.cell 0 Z
 have p:=d.cell 1 Z
 have g:=d
 by_cases h:k<s.size
 ·rw[dif_pos h]at i
  have j:decide (s.size<=k)=false:=by simp;omega
  have m:=Lib.hid i
  clear i d
  go_enter func206,ntmps206
  go_wp2
  go_quiet ((first|(go_at_call 208;exact Calls.quiet_of (GJ b s k o _ (g.drewN _) false j))|(go_at_call 93;exact GX (V9 _ _))))
  go_wp2
  go_ret
  exact⟨GF (by rw[<-m.out]),_,Z⟩
 ·rw[dif_neg h]at i
  subst i
  have j:decide (s.size<=k)=true:=by simp;omega
  clear d
  go_enter func206,ntmps206
  go_wp2
  go_quiet ((go_at_call 208;exact Calls.quiet_of (GJ b s k o _ (g.drewN _) true j)))
  go_wp2
  go_ret
  exact⟨Z,_,Z⟩
end
section
theorem Xby{j:Nat}(h:Gl (λn=>cls n==1) s k=j):
 Gq s k=if h:j<s.size then(if cls s[j].toNat==7 then Gl (λn=>cls n != 2) s j else j)else j:=by
 subst h;rfl
theorem XeW(b:Nat)(s:ByteArray)(k:Nat)(o:Bool)(w:World)(Q:Scan w b s k o)(hs:s.size<=16384)(hk:k<=s.size):
   Calls prog 205 #[Vc b 0] w λe w'=>e=.returned (.tuple #[])/\Scan w' b s (Gq s k) o/\w.grownBy w' (some b):=by
 go_enter func205,ntmps205
 go_wp2
 go_loopg [] (s.size-k) (λm wr=>∃j,Hid (m=s.size-j)/\k<=j/\j<=s.size/\Scan wr b s j o/\w.grownBy wr (some b)/\Hid (Gl (λn=>cls n==1) s k=Gl (λn=>cls n==1) s j))
 case atStart=>exact⟨k,Lib.hid Z,AI _,hk,Q,UM _ _,Lib.hid Z⟩
 case round=>
   obtain⟨j,G,X,K,c,C,I⟩:=hrel
   have R:=c.cell 0 Z
   have N:=c.cell 1 Z
   have L:=c.frozen 1
   clear Q
   by_cases D:j<s.size
   ·have r:decide (s.size<=j)=false:=by simp;omega
    by_cases y:cls s[j].toNat=1
    ·have v:(cls ↑s[j].toNat==1)=true:=by simpa using y
     have H1:=Lib.hid y
     clear y
     go_wp2
     go_quiet ((first|(go_at_call 208;with_reducible exact Calls.quiet_of (GJ b s j o _ (c.drewN _) false r))|(go_at_call 93;with_reducible exact GX (V9 _ _))))
     go_wp2
     go_roundg (s.size-(j+1))
     case measure=>rw[G.out];omega
     case rel=>exact⟨j+1,Lib.hid Z,O,O,Scan.at' (c.drewN _),Ut (Uc C _) (.inl Z) _,Lib.hid (I.out.trans (GA D v))⟩
    ·have v:(cls ↑s[j].toNat==1)=false:=by simpa using y
     have p:=Xby (I.out.trans (GV D v))
     rw[dif_pos D]at p
     by_cases u:cls s[j].toNat=7
     ·have A:(cls ↑s[j].toNat==7)=true:=by simpa using u
      have J:(cls ↑s[j].toNat != 7)=false:=by simpa using u
      rw[if_pos A]at p
      have Hp:=Lib.hid p
      clear y u p
      go_wp2
      go_quiet ((first|(go_at_call 208;with_reducible exact Calls.quiet_of (GJ b s j o _ (c.drewN _) false r))|(go_at_call 93;with_reducible exact GX (V9 _ _))))
      go_wp2
      go_quiet ((first|(go_at_call 208;with_reducible exact Db (GJ b s j o _ (c.drewN _) false r))|(go_at_call 93;with_reducible exact NO (V9 _ _))))
      go_wp2
      go_loopg [] (s.size-j) (λm P=>∃i,Hid (m=s.size-i)/\j<=i/\i<=s.size/\Scan P b s i o/\w.grownBy P (some b)/\Hid (Gl (λn=>cls n != 2) s j=Gl (λn=>cls n != 2) s i))
      case atStart=>exact⟨j,Lib.hid Z,AI _,K,(c.drewN _).drewN _,Uc (Uc C _) _,Lib.hid Z⟩
      case round=>
        obtain⟨i,G,V,T,g,B,z⟩:=hrel
        clear R N L c
        have R:=g.cell 0 Z
        have N:=g.cell 1 Z
        have L:=g.frozen 1
        by_cases q:(if h:i<s.size then cls s[i].toNat==2 else true)=false
        ·have t:i<s.size:=by
           by_cases t:i<s.size
           ·exact t
           ·rw[dif_neg t]at q;cases q
         have d:(cls ↑s[i].toNat != 2)=true:=by rw[dif_pos t]at q;simpa using q
         have U:=Lib.hid d
         have E:=Lib.hid q
         clear q d
         go_wp2_with (go_at_call 206;refine(Lb b s i o _ g false E.out).mono ?_;rintro e w' ⟨rfl,W,rfl⟩)
         go_roundg (s.size-(i+1))
         case measure=>rw[G.out];omega
         case rel=>exact⟨i+1,Lib.hid Z,O,O,Scan.at' (g.drewN _),Ut (Uc B _) (.inl Z) _,Lib.hid (z.out.trans (GA t U.out))⟩
        ·have d:(if h:i<s.size then cls s[i].toNat==2 else true)=true:=by simpa using q
         have M:Gl (λn=>cls n != 2) s i=i:=by
           by_cases t:i<s.size
           ·rw[dif_pos t]at d;exact GV t (by simpa using d)
           ·exact Jw O
         have S:=Lib.hid M
         have E:=Lib.hid d
         clear q d M
         go_wp2_with (go_at_call 206;refine(Lb b s i o _ g true E.out).mono ?_;rintro e w' ⟨rfl,W,rfl⟩)
         go_returns
         exact⟨Z,by rw[Hp.out,z.out,S.out];exact g.drewN _,Uc B _⟩
     ·have A:(cls ↑s[j].toNat==7)=false:=by simpa using u
      have J:(cls ↑s[j].toNat != 7)=true:=by simpa using u
      rw[if_neg (by simp[u])]at p
      have Hp:=Lib.hid p
      clear y u p
      go_wp2
      go_quiet ((first|(go_at_call 208;with_reducible exact Calls.quiet_of (GJ b s j o _ (c.drewN _) false r))|(go_at_call 93;with_reducible exact GX (V9 _ _))))
      go_wp2
      go_quiet ((first|(go_at_call 208;with_reducible exact Db (GJ b s j o _ (c.drewN _) false r))|(go_at_call 93;with_reducible exact NO (V9 _ _))))
      go_wp2
      go_returns
      exact⟨Z,by rw[Hp.out];exact(c.drewN _).drewN _,Uc (Uc C _) _⟩
   ·have r:decide (s.size<=j)=true:=by simp;omega
    have p:=Xby (I.out.trans (Jw O))
    rw[dif_neg D]at p
    have Hp:=Lib.hid p
    clear p
    go_wp2
    go_quiet (((go_at_call 208;with_reducible exact Calls.quiet_of (GJ b s j o _ (c.drewN _) true r))))
    go_wp2
    go_quiet (((go_at_call 208;with_reducible exact Db (GJ b s j o _ (c.drewN _) true r))))
    go_wp2
    go_returns
    exact⟨Z,by rw[Hp.out];exact(c.drewN _).drewN _,Uc (Uc C _) _⟩
theorem XcU(b:Nat)(s:ByteArray)(k:Nat)(o:Bool)(w:World)(p:Scan w b s k o)(hs:s.size<=16384)(y:k<s.size):
 Calls prog 233 #[Vc b 0] w λe w'=>e=.returned (Ve (BB s k))/\w=w':=by
 have z:=p.cell 0 Z
 have u:=p.cell 1 Z
 go_enter func233,ntmps233
 go_wp2
 go_loopg [3] (s.size-(k+1)) (λm v wr=>∃j:Nat,Hid (m=s.size-j)/\k+1<=j/\j<=s.size/\w=wr/\v=Ve j/\Hid (Gl XgP s (k+1)=Gl XgP s j))
 case atStart=>exact⟨k+1,Lib.hid Z,AI _,O,Z,by go_num,Lib.hid Z⟩
 case round=>
  obtain⟨j,t,r,q,rfl,rfl,i⟩:=hrel
  by_cases n:j<s.size
  ·by_cases g:XgP s[j].toNat=true
   ·have d:=Lib.hid g
    clear g
    go_wp2_with (go_at_call 95;refine(Qf _ _ true d.out).mono ?_;rintro e w' ⟨rfl,rfl⟩)
    go_roundg (s.size-(j+1))
    case measure=>rw[t.out];omega
    case rel=>exact⟨j+1,Lib.hid Z,O,O,Z,by go_num,Lib.hid (i.out.trans (GA n d.out))⟩
   ·have c:XgP s[j].toNat=false:=by simpa using g
    have d:=Lib.hid c
    clear g c
    go_wp2_with (go_at_call 95;refine(Qf _ _ false d.out).mono ?_;rintro e w' ⟨rfl,rfl⟩)
    go_returns
    exact⟨Gw (by unfold BB;rw[i.out,GV n d.out]),Z⟩
  ·go_wp2
   go_returns
   exact⟨Gw (by unfold BB;rw[i.out,Jw O]),Z⟩
theorem Xgs(b:Nat)(s:ByteArray)(k:Nat)(o:Bool)(w:World)(p:Scan w b s k o)(hs:s.size<=16384)(z:k<s.size):
 Calls prog 234 #[Vc b 0] w λe w'=>e=.returned (Ve (Xgr s k))/\w=w':=by
 have A:=p.cell 0 Z
 have y:=p.cell 1 Z
 go_enter func234,ntmps234
 go_wp2
 go_loopg [3] (s.size-(k+1)) (λm v wr=>∃j:Nat,Hid (m=s.size-j)/\k+1<=j/\j<=s.size/\w=wr/\v=Ve j/\Hid (Gl J1 s (k+1)=Gl J1 s j))
 case atStart=>exact⟨k+1,Lib.hid Z,AI _,O,Z,by go_num,Lib.hid Z⟩
 case round=>
  obtain⟨j,u,t,r,rfl,rfl,i⟩:=hrel
  by_cases n:j<s.size
  ·by_cases g:J1 s[j].toNat=true
   ·have d:=Lib.hid g
    have q:(cls ↑s[j].toNat==4)=_:=d.out
    clear g
    go_wp2_with (go_at_call 93;refine(V9 _ _).mono ?_;rintro e w' ⟨rfl,rfl⟩)
    go_roundg (s.size-(j+1))
    case measure=>rw[u.out];omega
    case rel=>exact⟨j+1,Lib.hid Z,O,O,Z,by go_num,Lib.hid (i.out.trans (GA n d.out))⟩
   ·have c:J1 s[j].toNat=false:=by simpa using g
    have d:=Lib.hid c
    have q:(cls ↑s[j].toNat==4)=_:=d.out
    clear g c
    go_wp2_with (go_at_call 93;refine(V9 _ _).mono ?_;rintro e w' ⟨rfl,rfl⟩)
    go_returns
    exact⟨Gw (by unfold Xgr;rw[i.out,GV n d.out]),Z⟩
  ·go_wp2
   go_returns
   exact⟨Gw (by unfold Xgr;rw[i.out,Jw O]),Z⟩
theorem Xdg(b:Nat)(s:ByteArray)(k:Nat)(o:Bool)(w:World)(c:Scan w b s k o)(hs:s.size<=16384)(i:k<s.size):
 Calls prog 232 #[Vc b 0] w λe w'=>e=.returned (Ve (LY s k))/\∃n,w'=w.drewN n:=by
 have g:=c.cell 0 Z
 have d:=c.cell 1 Z
 go_enter func232,ntmps232
 go_wp2
 go_quiet (fail)
 go_wp2
 all_goals
  go_returns
  refine⟨Gw ?_,_,Z⟩
  unfold LY Xme
  first
   |(rw[dif_pos O];simp[*];done)
   |(rw[dif_pos O];simp[*];omega)
   |(rw[dif_neg O];simp)
   |(split<;>simp[*]<;>omega)
   |(split<;>simp[*])
end
section
theorem E9{a b:Int}{c d:Bool}(h:a=b)(g:c=d):Ending.returned (.tuple #[.int .u8 a,.bool c])=.returned (.tuple #[.int .u8 b,.bool d]):=by rw[h,g]
theorem XoZ(s:ByteArray)(w:World)(hs:s.size<=maxLen)(c:Bool)(L:Lv s=c):
   Calls prog 209 #[.string s] w λe w'=>e=.returned (.tuple #[.int .u8 (Xp8 s),.bool c])/\w=w':=by
 unfold maxLen at hs
 have t:=Lib.hid L
 clear L
 by_cases h:1<=s.size/\s.size<=3
 ·by_cases hz:(s[0].toNat:Int)=48/\1<s.size
  ·have b:Lv s=false:=by unfold Lv;rw[dif_pos h];simp[hz.1,hz.2]
   have d:=Lib.hid b
   obtain⟨K,Q⟩:=h
   obtain⟨o,R⟩:=hz
   have I:((s[0].toNat:Int)==48)=true:=by simpa using o
   clear b o
   go_enter func209,ntmps209
   go_wp2
   go_returns
   exact⟨E9 (by simp[Xp8,d.out]) (by rw[<-t.out,d.out]),Z⟩
  ·have n:Lv s=(Gl J1 s 0==s.size&&decide (J6 s s.size<=255)):=by
     unfold Lv;rw[dif_pos h]
     rw[show((s[0].toNat:Int)==48&&decide (1<s.size))=false from by
       rw[HG];by_cases G:(s[0].toNat:Int)=48
       ·exact .inr (by simp;omega)
       ·exact .inl (by simpa using G)]
     simp
   have J:=Lib.hid n
   clear n
   obtain⟨K,Q⟩:=h
   have V:0<s.size:=K
   have D:¬(s[0].toNat:Int)=48\/s.size<=1:=by
     by_cases G:(s[0].toNat:Int)=48
     ·exact .inr O
     ·exact .inl G
   clear hz
   rcases D with hz|hz
   all_goals
     try(have o:((s[0].toNat:Int)==48)=false:=by simpa using hz)
     go_enter func209,ntmps209
     go_wp2
     all_goals
       go_loopg [4,26] s.size (λm v i wr=>∃j:Nat,Hid (m=s.size-j)/\j<=s.size/\w=wr/\v=Ve (J6 s j)/\i=Ve j/\Hid (Gl J1 s 0=Gl J1 s j)/\(J6 s j:Int)<=999/\(j<=2->(J6 s j:Int)<=99)/\(j<=1->(J6 s j:Int)<=9)/\(j<=0->(J6 s j:Int)<=0))
       case atStart=>exact⟨0,Lib.hid Z,AU _,Z,Z,Z,Lib.hid Z,by simp[J6],by simp[J6],by simp[J6],by simp[J6]⟩
       case round=>
         obtain⟨j,S,X,rfl,rfl,rfl,E,M,u,y,B⟩:=hrel
         by_cases r:j<s.size
         ·have P:=u O
          by_cases p:J1 s[j].toNat=true
          ·have g:=isDig_iff.1 p
           obtain⟨d1,W⟩:=g
           have C:(cls ↑s[j].toNat != 4)=false:=by have:(cls ↑s[j].toNat==4)=true:=p;simpa using this
           have z:=Lib.hid (Xf0 r p)
           have N:Hid ((j<=1->(J6 s j:Int)<=9)/\(j<=0->(J6 s j:Int)<=0)):=Lib.hid ⟨y,B⟩
           have Hd:=Lib.hid p
           clear M u y B p
           go_wp2_with (go_at_call 93;refine(V9 _ _).mono ?_;rintro e w' ⟨rfl,rfl⟩)
           go_roundg (s.size-(j+1))
           case measure=>rw[S.out];omega
           case rel=>exact⟨j+1,Lib.hid Z,O,Z,by rw[z.out],by go_num,Lib.hid (E.out.trans (GA r Hd.out)),by rw[z.out];omega,λ_=>by rw[z.out];have:=N.out.1 O;omega,λ_=>by rw[z.out];have:=N.out.2 O;omega,λ_=>O⟩
          ·have g:J1 s[j].toNat=false:=by simpa using p
           have C:(cls ↑s[j].toNat != 4)=true:=by have:(cls ↑s[j].toNat==4)=false:=g;simpa using this
           have b:Lv s=false:=by
             rw[J.out,E.out,GV r g]
             simp;omega
           have d:=Lib.hid b
           clear M u y B p g b
           go_wp2_with (go_at_call 93;refine(V9 _ _).mono ?_;rintro e w' ⟨rfl,rfl⟩)
           go_returns
           exact⟨E9 (by simp[Xp8,d.out]) (by rw[<-t.out,d.out]),Z⟩
         ·have q:j=s.size:=O
          have n:Lv s=decide (J6 s s.size<=255):=by
            rw[J.out,E.out,Jw O];simp[q]
          have d:=Lib.hid n
          have A:=Lib.hid q
          clear n q u y B
          by_cases U:(J6 s j:Int)<=255
          ·go_wp2
           go_returns
           refine⟨E9 ?_ ?_,Z⟩
           ·rw[Xp8,d.out,<-A.out,decide_eq_true O];simp
           ·rw[<-t.out,d.out,<-A.out];simp;omega
          ·go_wp2
           go_returns
           refine⟨E9 ?_ ?_,Z⟩
           ·rw[Xp8,d.out,<-A.out,decide_eq_false O];simp
           ·rw[<-t.out,d.out,<-A.out];simp;omega
 ·have b:Lv s=false:=by unfold Lv;rw[dif_neg h]
  have d:=Lib.hid b
  clear b
  have T:s.size<1\/3<s.size:=O
  clear h
  rcases T with h|h
  all_goals
    go_enter func209,ntmps209
    go_wp2
    go_returns
    exact⟨E9 (by simp[Xp8,d.out]) (by rw[<-t.out,d.out]),Z⟩
theorem Xfi(s:ByteArray)(w:World)(c:Bool)(b:XnH s=c):
 Calls prog 94 #[.string s] w λe w'=>e=.returned (.bool c)/\w=w':=by
 have d:=Lib.hid b
 clear b
 go_enter func94,ntmps94
 go_wp2
 all_goals
  go_returns
  refine⟨GF ?_,Z⟩
  rw[<-d.out]
  first|(simp only[XnH,keptL,List.any_cons,List.any_nil, *];done)|(simp[XnH,keptL, *];done)|(simp_all[XnH,keptL];done)
end
section
theorem XlU(s:ByteArray)(w:World)(hs:s.size<=maxLen)(c:Bool)(Q:NQ s=c):
   Calls prog 51 #[.string s] w λe w'=>e=.returned (.bool c)/\w=w':=by
 unfold maxLen at hs
 have v:=Lib.hid Q
 clear Q
 by_cases h:1<=s.size/\s.size<=16
 ·have b:NQ s=(cls s[0].toNat==3 && !XnH s&&Gl XgP s 1==s.size && !((s[0].toNat:Int)==114&&decide (1<s.size)&&(Mi s s.size==s.size-1))):=by
    rw[<-Xc7 h.1];unfold NQ;rw[dif_pos h]
  have z:=Lib.hid b
  clear b
  obtain⟨V,h2⟩:=h
  have hp:0<s.size:=V
  by_cases t:cls s[0].toNat=3
  ·have n:(cls ↑s[0].toNat==3)=true:=by simpa using t
   have M:(cls ↑s[0].toNat != 3)=false:=by simpa using t
   by_cases K:XnH s=true
   ·have N:=Lib.hid n
    have G:=Lib.hid K
    clear n K t
    go_enter func51,ntmps51
    go_wp2_with (first|(go_at_call 93;refine(V9 _ _).mono ?_;rintro e w' ⟨rfl,rfl⟩)|(go_at_call 94;refine(Xfi _ _ true G.out).mono ?_;rintro e w' ⟨rfl,rfl⟩))
    go_returns
    exact⟨GF (by rw[<-v.out,z.out,G.out];simp),Z⟩
   ·have E:XnH s=false:=by simpa using K
    have N:=Lib.hid n
    have G:=Lib.hid E
    clear n K E t
    go_enter func51,ntmps51
    go_wp2_with (first|(go_at_call 93;refine(V9 _ _).mono ?_;rintro e w' ⟨rfl,rfl⟩)|(go_at_call 94;refine(Xfi _ _ false G.out).mono ?_;rintro e w' ⟨rfl,rfl⟩))
    go_loopg [3,4] (s.size-1) (λm d i wr=>∃j:Nat,Hid (m=s.size-j)/\1<=j/\j<=s.size/\w=wr/\d=Ve (Mi s j)/\i=Ve j/\Hid (Gl XgP s 1=Gl XgP s j)/\Mi s j<=16)
    case atStart=>exact⟨1,Lib.hid Z,O,O,Z,by simp[Mi],Z,Lib.hid Z,by simp[Mi]⟩
    case round=>
      obtain⟨j,P,a1,X,rfl,rfl,rfl,J,S⟩:=hrel
      by_cases o:j<s.size
      ·by_cases I:XgP s[j].toNat=true
       ·have A:=Lib.hid I
        clear I
        by_cases y:J1 s[j].toNat=true
        ·have L:(cls ↑s[j].toNat==4)=true:=y
         have Hs:Hid (Mi s (j+1)=Mi s j+1):=Lib.hid (by rw[Mi,dif_pos ⟨O,o⟩,if_pos y])
         clear y
         go_wp2_with (first|(go_at_call 95;refine(Qf _ _ true A.out).mono ?_;rintro e w' ⟨rfl,rfl⟩)|(go_at_call 93;refine(V9 _ _).mono ?_;rintro e w' ⟨rfl,rfl⟩))
         go_roundg (s.size-(j+1))
         case measure=>rw[P.out];omega
         case rel=>exact⟨j+1,Lib.hid Z,O,O,Z,by rw[Hs.out];go_num,by go_num,Lib.hid (J.out.trans (GA o A.out)),by have:=LO s (j+1);omega⟩
        ·have L:(cls ↑s[j].toNat==4)=false:=by simpa[J1]using y
         have Hs:Hid (Mi s (j+1)=Mi s j):=Lib.hid (by rw[Mi,dif_pos ⟨O,o⟩,if_neg y];rfl)
         clear y
         go_wp2_with (first|(go_at_call 95;refine(Qf _ _ true A.out).mono ?_;rintro e w' ⟨rfl,rfl⟩)|(go_at_call 93;refine(V9 _ _).mono ?_;rintro e w' ⟨rfl,rfl⟩))
         go_roundg (s.size-(j+1))
         case measure=>rw[P.out];omega
         case rel=>exact⟨j+1,Lib.hid Z,O,O,Z,by rw[Hs.out],by go_num,Lib.hid (J.out.trans (GA o A.out)),by have:=LO s (j+1);omega⟩
       ·have r:XgP s[j].toNat=false:=by simpa using I
        have b:NQ s=false:=by
          rw[z.out,J.out,GV o r,show(j==s.size)=false from by simp;omega];simp
        have g:=Lib.hid b
        have A:=Lib.hid r
        clear I r b
        go_wp2_with (go_at_call 95;refine(Qf _ _ false A.out).mono ?_;rintro e w' ⟨rfl,rfl⟩)
        go_returns
        exact⟨GF (by rw[<-v.out,g.out]),Z⟩
      ·have u:j=s.size:=O
       have b:NQ s = !((s[0].toNat:Int)==114&&decide (1<s.size)&&(Mi s j==s.size-1)):=by
         rw[z.out,J.out,Jw O,N.out,G.out,u];simp
       have R:=LO s j
       have g:=Lib.hid b
       have Hj:=Lib.hid u
       clear b u
       by_cases p:(s[0].toNat:Int)=114
       ·by_cases q:Mi s j=0
        ·have C:((Mi s j:Int)==0)=true:=by simp[q]
         have B:Hid (((s[0].toNat:Int)==114)=true):=Lib.hid (by simpa using p)
         have U:=Lib.hid q
         have D:((s[0].toNat:Int)!=114)=false:=by simpa using p
         clear q p
         go_wp2
         go_returns
         refine⟨GF ?_,Z⟩
         rw[<-v.out,g.out,B.out,U.out]
         by_cases T:1<s.size
         ·rw[show(0==s.size-1)=false from by simp;omega];simp
         ·rw[decide_eq_false T];simp
        ·have C:((Mi s j:Int)==0)=false:=by simpa using q
         have B:Hid (((s[0].toNat:Int)==114)=true):=Lib.hid (by simpa using p)
         have D:((s[0].toNat:Int)!=114)=false:=by simpa using p
         clear p
         go_wp2
         all_goals
           go_returns
           refine⟨GF ?_,Z⟩
           rw[<-v.out,g.out,B.out,show decide (1<s.size)=true from by simp;omega]
           rw[HE];simp;omega
       ·have B:Hid (((s[0].toNat:Int)==114)=false):=Lib.hid (by simpa using p)
        have D:((s[0].toNat:Int)!=114)=true:=by simpa using p
        clear p
        go_wp2
        go_returns
        exact⟨GF (by rw[<-v.out,g.out,B.out];simp),Z⟩
  ·have n:(cls ↑s[0].toNat != 3)=true:=by simpa using t
   have b:NQ s=false:=by rw[z.out,show(cls ↑s[0].toNat==3)=false from by simpa using t];simp
   have g:=Lib.hid b
   clear b t
   go_enter func51,ntmps51
   go_wp2_with (go_at_call 93;refine(V9 _ _).mono ?_;rintro e w' ⟨rfl,rfl⟩)
   go_returns
   exact⟨GF (by rw[<-v.out,g.out]),Z⟩
 ·have b:NQ s=false:=by unfold NQ;rw[dif_neg h]
  have z:=Lib.hid b
  clear b
  have W:s.size<1\/16<s.size:=O
  clear h
  rcases W with h|h
  all_goals
    go_enter func51,ntmps51
    go_wp2
    go_returns
    exact⟨GF (by rw[<-v.out,z.out]),Z⟩
end
structure Tok where
 kind:Nat
 text:ByteArray
 pos:Nat
def EZ(c:Int):Nat:=if c=3 then 1 else if c=4 then 2 else 3
def LP(s:ByteArray)(k:Nat):Int:=if h:k<s.size then cls s[k].toNat else 2
def QT(s:ByteArray)(k:Nat):Nat:=if LP s k=3 then BB s k else if LP s k=4 then Xgr s k else LY s k
def Eh(s:ByteArray)(k:Nat):Tok:=⟨EZ (LP s k),s.extract k (QT s k),k⟩
theorem Dh(s:ByteArray)(k:Nat):k<=Gq s k:=by
 unfold Gq;simp only
 have b:=Ez (λn=>cls n==1) s k
 split
 ·split
  ·exact AW b (Ez _ _ _)
  ·exact b
 ·exact b
theorem Dg(s:ByteArray)(k:Nat)(h:k<=s.size):Gq s k<=s.size:=by
 unfold Gq;simp only
 have b:=Ey (λn=>cls n==1) s k h
 split
 ·split
  ·exact Ey _ _ _ b
  ·exact b
 ·exact b
theorem Xia(s:ByteArray)(k:Nat)(h:k<s.size):LY s k<=s.size:=by
 unfold LY
 by_cases b:Xme s k=true
 ·rw[if_pos b]
  by_cases c:k+1<s.size
  ·omega
  ·rw[Xme,dif_neg c]at b;cases b
 ·rw[if_neg b];omega
theorem Cw(s:ByteArray)(k:Nat)(h:k<s.size):QT s k<=s.size:=by
 unfold QT;split
 ·exact Ey _ _ _ h
 ·split
  ·exact Ey _ _ _ h
  ·exact Xia s k h
theorem Cx(s:ByteArray)(k:Nat):k<QT s k:=by
 unfold QT;split
 ·exact Ez _ _ _
 ·split
  ·exact Ez _ _ _
  ·unfold LY;split<;>omega
def JZ(s:ByteArray):Nat->Nat->Bool->Option Tok×Nat×Bool
 |0,k,o=>(none,k,o)
 |f+1,k,o=>
  if LP s (Gq s k)≠2 then(some (Eh s (Gq s k)),QT s (Gq s k),true)
  else if o then(some ⟨4,ByteArray.empty,Gq s k⟩,min (Gq s k+1) s.size,false)
  else if s.size<=Gq s k then(none,min (Gq s k+1) s.size,false)
  else JZ s f (Gq s k+1) false
theorem XaI(h:LP s k≠2):k<s.size:=by
 unfold LP at h;split at h
 ·assumption
 ·exact absurd Z h
def UR(t:Tok):Int:=
 if t.kind=1 then(if 16<t.text.size then 42 else 0)
 else if t.kind=2 then(if Lv t.text then 0 else 41)
 else if t.kind=3 then(if LP t.text 0=6 then 0 else 40)
 else 0
section
def Tok.val(t:Tok):Value:=.agg #[.int .u8 t.kind,.string t.text,.int .i64 t.pos]
theorem Scan.alloc(h:Scan w b s k o)(x:Obj):Scan (w.alloc x) b s k o:=Blk.alloc (h:=h) x
theorem Scan.drew(h:Scan w b s k o):Scan w.drew b s k o:=h
theorem Scan.other(h:Scan w b s k o)(a:Addr)(c:b≠a.block)(v:Value):Scan (w.setCell a v) b s k o:=Blk.setOther h a c v
theorem Scan.open'(h:Scan w b s k o)(x:Bool):Scan (w.setCell ⟨b,2,none⟩ (.bool x)) b s k x:=Blk.set (h:=h) 2 _
theorem Scan.lt(h:Scan w b s k o):b<w.heap.size:=Blk.lt h
theorem XhP(b:Nat)(s:ByteArray)(k:Nat)(o:Bool)(w:World)(i:Scan w b s k o)(hs:s.size<=16384)(u:k<s.size):
 Calls prog 207 #[Vc b 0] w λe w'=>e=.returned (Eh s k).val/\Scan w' b s (QT s k) o/\w.grownBy w' (some b):=by
 have A:=i.cell 0 Z
 have D:=i.cell 1 Z
 have B:=i.frozen 1
 have m:=i.lt
 have p:=Cw s k u
 have j:=Cx s k
 have c:LP s k=cls s[k].toNat:=by unfold LP;rw[dif_pos u]
 have y:∀x n,Scan ((w.alloc x).drewN n) b s k o:=λx n=>Blk.alloc (h:=i) x
 by_cases g:cls s[k].toNat=3
 ·have v:(cls ↑s[k].toNat==3)=true:=by simpa using g
  have d:QT s k=BB s k:=by unfold QT;rw[c,if_pos g]
  have t:=Lib.hid d
  have r:Hid (Eh s k=⟨1,s.extract k (BB s k),k⟩):=Lib.hid (by unfold Eh EZ;rw[d,c];rw[if_pos g])
  rw[d]at p j
  clear d c
  go_enter func207,ntmps207
  go_wp2
  go_quiet (((go_at_call 93;with_reducible exact GX (V9 _ _))))
  go_wp2_with (go_at_call 233;refine(XcU b s k o _ (y _ _) hs u).mono ?_;rintro e w' ⟨rfl,rfl⟩)
  go_region
  go_wp2
  go_returns
  refine⟨by rw[r.out];rfl,?_,?_⟩
  ·rw[t.out];(repeat(first|with_reducible exact i|with_reducible refine Scan.drew ?_|with_reducible refine Scan.drewN ?_ _|with_reducible refine Scan.alloc ?_ _|refine Scan.other ?_ _ (IJ m) _|refine Scan.at (k:=k) ?_ _|refine Scan.at' ?_))
  ·(repeat(first|with_reducible exact UM _ _|with_reducible refine Gk ?_|with_reducible refine Uc ?_ _|with_reducible refine U0 ?_ _|with_reducible refine Ut ?_ (by first|exact .inl rfl|exact .inr (AI _)|exact .inr (by simp)) _))
 ·by_cases q:cls s[k].toNat=4
  ·have v:(cls ↑s[k].toNat==3)=false:=by simpa using g
   have z:(cls ↑s[k].toNat==4)=true:=by simpa using q
   have d:QT s k=Xgr s k:=by unfold QT;rw[c,if_neg g,if_pos q]
   have t:=Lib.hid d
   have r:Hid (Eh s k=⟨2,s.extract k (Xgr s k),k⟩):=Lib.hid (by unfold Eh EZ;rw[d,c];rw[if_neg g,if_pos q])
   rw[d]at p j
   clear d c
   go_enter func207,ntmps207
   go_wp2
   go_quiet (((go_at_call 93;with_reducible exact GX (V9 _ _))))
   go_wp2_with (go_at_call 234;refine(Xgs b s k o _ (y _ _) hs u).mono ?_;rintro e w' ⟨rfl,rfl⟩)
   go_region
   go_wp2
   go_returns
   refine⟨by rw[r.out];rfl,?_,?_⟩
   ·rw[t.out];(repeat(first|with_reducible exact i|with_reducible refine Scan.drew ?_|with_reducible refine Scan.drewN ?_ _|with_reducible refine Scan.alloc ?_ _|refine Scan.other ?_ _ (IJ m) _|refine Scan.at (k:=k) ?_ _|refine Scan.at' ?_))
   ·(repeat(first|with_reducible exact UM _ _|with_reducible refine Gk ?_|with_reducible refine Uc ?_ _|with_reducible refine U0 ?_ _|with_reducible refine Ut ?_ (by first|exact .inl rfl|exact .inr (AI _)|exact .inr (by simp)) _))
  ·have v:(cls ↑s[k].toNat==3)=false:=by simpa using g
   have z:(cls ↑s[k].toNat==4)=false:=by simpa using q
   have d:QT s k=LY s k:=by unfold QT;rw[c,if_neg g,if_neg q]
   have t:=Lib.hid d
   have r:Hid (Eh s k=⟨3,s.extract k (LY s k),k⟩):=Lib.hid (by unfold Eh EZ;rw[d,c];rw[if_neg g,if_neg q])
   rw[d]at p j
   clear d c
   go_enter func207,ntmps207
   go_wp2
   go_quiet (((go_at_call 93;with_reducible exact GX (V9 _ _))))
   go_wp2_with (go_at_call 232;refine(Xdg b s k o _ (y _ _) hs u).mono ?_;rintro e w' ⟨rfl,C,rfl⟩)
   go_region
   go_wp2
   go_returns
   refine⟨by rw[r.out];rfl,?_,?_⟩
   ·rw[t.out];(repeat(first|with_reducible exact i|with_reducible refine Scan.drew ?_|with_reducible refine Scan.drewN ?_ _|with_reducible refine Scan.alloc ?_ _|refine Scan.other ?_ _ (IJ m) _|refine Scan.at (k:=k) ?_ _|refine Scan.at' ?_))
   ·(repeat(first|with_reducible exact UM _ _|with_reducible refine Gk ?_|with_reducible refine Uc ?_ _|with_reducible refine U0 ?_ _|with_reducible refine Ut ?_ (by first|exact .inl rfl|exact .inr (AI _)|exact .inr (by simp)) _))
end
section
theorem XlR(b:Nat)(s:ByteArray)(k:Nat)(o:Bool)(w:World)(hS:Scan w b s k o)(hs:s.size<=16384)(hk:k<=s.size)(f:Nat)(hf:s.size<f+k)(t:Option Tok)(k':Nat)(o':Bool)(u:JZ s f k o=(t,k',o')):
   Calls prog 164 #[Vc b 0] w λe w'=>e=.returned (.tuple #[(t.getD ⟨0,ByteArray.empty,0⟩).val,.bool t.isSome])/\Scan w' b s k' o'/\w.grownBy w' (some b):=by
 have I:=hS.lt
 go_enter func164,ntmps164
 go_wp2
 go_loopg [] f (λm wr=>∃(j:Nat)(q:Bool),s.size<m+j/\j<=s.size/\Scan wr b s j q/\w.grownBy wr (some b)/\Blk wr w.heap.size [.int .u8 0,.string ⟨#[]⟩,Ve 0] 128/\Hid (JZ s m j q=(t,k',o')))
 case atStart=>exact⟨k,o,hf,hk,hS.alloc _,(by(repeat(first|with_reducible exact UM _ _|with_reducible refine Gk ?_|with_reducible refine Uc ?_ _|with_reducible refine U0 ?_ _|with_reducible refine Ut ?_ (by first|exact .inl rfl|exact .inr (AI _)|exact .inr (by simp)) _))),Blk.new _ _ _,Lib.hid u⟩
 case round=>
   obtain⟨j,q,a8,hj,K,hg,hR,J⟩:=hrel
   clear hS
   obtain⟨m,rfl⟩:∃m,gk=m+1:=⟨gk-1,O⟩
   have a5:=Dh s j
   have a4:=Dg s j hj
   have a1:w.heap.size≠b:=O
   generalize D:Gq s j=p at a5 a4
   by_cases G:LP s p=2
   ·have ha:(if h:p<s.size then cls s[p].toNat==2 else true)=true:=by
      unfold LP at G;split
      ·rename_i h;rw[dif_pos h]at G;simpa using G
      ·rfl
    have Ha:=Lib.hid ha
    have Hp:=Lib.hid D
    have Hn:Hid ((if q then(some ⟨4,ByteArray.empty,p⟩,min (p+1) s.size,false)else if s.size<=p then(none,min (p+1) s.size,false)else JZ s m (p+1) false)=(t,k',o')):=
      Lib.hid (by have:=J.out;rw[JZ,D,if_neg (by simp[G])]at this;exact this)
    clear ha D G J u
    go_wp2_with fail
    refine(XeW b s j q _ K hs hj).mono ?_;rintro e w1 ⟨rfl,g,z⟩;rw[Hp.out]at g
    have E:=hR.grown z (by simp;omega)
    have g1:=Np hg z
    clear K hg hR z
    go_wp2_with fail
    refine(Lb b s p q _ g true Ha.out).mono ?_;rintro e N ⟨rfl,M,rfl⟩
    have i:=g.drewN M
    have n:=E.drewN M
    have g2:=Uc g1 M
    generalize w1.drewN M=N at i n g2
    clear g E g1
    have c0:=i.cell 0 Z
    have c1:=i.cell 1 Z
    have U:=i.cell 2 Z
    have a7:w.heap.size≠N.heap.size:=by have:=n.lt;omega
    by_cases hl:s.size<=p
    ·skip
     go_wp2_with fail
     refine(GJ b s p q _ (i.alloc _) true (by simpa using hl)).mono ?_;rintro e W ⟨rfl,n3,rfl⟩
     go_wp2_with fail
     generalize A:World.drewN _ _=C
     have c:Scan C b s p q:=by rw[<-A];exact i.alloc _
     have d:Blk C w.heap.size [.int .u8 0,.string ⟨#[]⟩,Ve 0] 128:=by rw[<-A];exact n.alloc _
     have r:Blk C N.heap.size [.int .u8 4,.string ⟨#[]⟩,Ve p] 128:=by rw[<-A];exact Blk.new _ _ _
     have B:w.grownBy C (some b):=by rw[<-A];exact Uc (U0 g2 _) _
     have a3:N.heap.size≠b:=by have:=n.lt;omega
     have HW:=Lib.hid A
     clear A i n g2 c0 c1 U
     have c0:=c.cell 0 Z
     have c1:=c.cell 1 Z
     have U:=c.cell 2 Z
     have f1:=c.frozen 1
     have f2:=c.frozen 2
     have T:=d.cell 0 Z
     have V:=d.cell 1 Z
     have S:=d.cell 2 Z
     have q0:=d.frozen 0
     have q1:=d.frozen 1
     have q2:=d.frozen 2
     have t0:=r.cell 0 Z
     have t1:=r.cell 1 Z
     have t2:=r.cell 2 Z
     have H4:=Lib.hid (⟨c,B⟩:Scan C b s p q/\w.grownBy C (some b))
     have X:=Lib.hid hl
     clear c B
     cases q
     ·go_region
      go_wp2
      refine bodyPost_ret (v:=.tuple #[.agg #[.int .u8 0,.string ⟨#[]⟩,Ve 0],.bool false]) (by simp[results,results164,go_sem,T,V,S]) Z ?_
      have u:=Hn.out
      have:=X.out
      simp only[IR,if_false,if_pos this,Prod.mk.injEq]at u
      obtain⟨rfl,rfl,rfl⟩:=u
      obtain⟨c,B⟩:=H4.out
      refine⟨Z,?_,?_⟩
      ·rw[show min (p+1) s.size=s.size from by omega]
       (repeat(first|with_reducible exact c|with_reducible refine Scan.drew ?_|with_reducible refine Scan.drewN ?_ _|with_reducible refine Scan.alloc ?_ _|refine Scan.other ?_ _ (IJ I) _|refine Scan.open' (o:=false) ?_ _|refine Scan.at (k:=p) ?_ _|refine Scan.at' ?_))
      ·(repeat(first|with_reducible exact UM _ _|with_reducible refine Gk ?_|with_reducible refine Uc ?_ _|with_reducible refine U0 ?_ _|with_reducible refine Ut ?_ (by first|exact .inl rfl|exact .inr (AI _)|exact .inr (by simp)) _|with_reducible exact B))
     ·go_region
      go_wp2
      refine bodyPost_ret (v:=.tuple #[.agg #[.int .u8 4,.string ⟨#[]⟩,Ve p],.bool true]) (by simp[results,results164,go_sem,T,V,S]) Z ?_
      have u:=Hn.out
      simp only[if_true,Prod.mk.injEq]at u
      obtain⟨rfl,rfl,rfl⟩:=u
      obtain⟨c,B⟩:=H4.out
      have:=X.out
      refine⟨Z,?_,?_⟩
      ·rw[show min (p+1) s.size=s.size from by omega]
       (repeat(first|with_reducible exact c|with_reducible refine Scan.drew ?_|with_reducible refine Scan.drewN ?_ _|with_reducible refine Scan.alloc ?_ _|refine Scan.other ?_ _ (IJ I) _|refine Scan.open' (o:=true) ?_ _|refine Scan.at (k:=p) ?_ _|refine Scan.at' ?_))
      ·(repeat(first|with_reducible exact UM _ _|with_reducible refine Gk ?_|with_reducible refine Uc ?_ _|with_reducible refine U0 ?_ _|with_reducible refine Ut ?_ (by first|exact .inl rfl|exact .inr (AI _)|exact .inr (by simp)) _|with_reducible exact B))
    ·skip
     go_wp2_with fail
     refine(GJ b s p q _ (i.alloc _) false (by simpa using hl)).mono ?_;rintro e W ⟨rfl,n3,rfl⟩
     go_wp2_with fail
     generalize A:World.drewN _ _=C
     have c:Scan C b s p q:=by rw[<-A];exact i.alloc _
     have d:Blk C w.heap.size [.int .u8 0,.string ⟨#[]⟩,Ve 0] 128:=by rw[<-A];exact n.alloc _
     have r:Blk C N.heap.size [.int .u8 4,.string ⟨#[]⟩,Ve p] 128:=by rw[<-A];exact Blk.new _ _ _
     have B:w.grownBy C (some b):=by rw[<-A];exact Uc (U0 g2 _) _
     have a3:N.heap.size≠b:=by have:=n.lt;omega
     have HW:=Lib.hid A
     clear A i n g2 c0 c1 U
     have c0:=c.cell 0 Z
     have c1:=c.cell 1 Z
     have U:=c.cell 2 Z
     have f1:=c.frozen 1
     have f2:=c.frozen 2
     have T:=d.cell 0 Z
     have V:=d.cell 1 Z
     have S:=d.cell 2 Z
     have q0:=d.frozen 0
     have q1:=d.frozen 1
     have q2:=d.frozen 2
     have t0:=r.cell 0 Z
     have t1:=r.cell 1 Z
     have t2:=r.cell 2 Z
     have H4:=Lib.hid (⟨c,B⟩:Scan C b s p q/\w.grownBy C (some b))
     have X:=Lib.hid hl
     clear c B
     cases q
     ·go_region
      go_wp2
      go_roundg m
      case measure=>omega
      case rel=>
        have u:=Hn.out
        have:=X.out
        simp only[IR,if_false,if_neg this]at u
        obtain⟨c,B⟩:=H4.out
        refine⟨p+1,false,O,O,?_,?_,?_,Lib.hid u⟩
        ·(repeat(first|with_reducible exact c|with_reducible refine Scan.drew ?_|with_reducible refine Scan.drewN ?_ _|with_reducible refine Scan.alloc ?_ _|refine Scan.other ?_ _ (IJ I) _|refine Scan.open' (o:=false) ?_ _|refine Scan.at (k:=p) ?_ _|refine Scan.at' ?_))
        ·(repeat(first|with_reducible exact UM _ _|with_reducible refine Gk ?_|with_reducible refine Uc ?_ _|with_reducible refine U0 ?_ _|with_reducible refine Ut ?_ (by exact .inl rfl) _|with_reducible exact B))
        ·exact Blk.drew (Blk.setOther d _ a1 _)
     ·go_region
      go_wp2
      refine bodyPost_ret (v:=.tuple #[.agg #[.int .u8 4,.string ⟨#[]⟩,Ve p],.bool true]) (by simp[results,results164,go_sem,T,V,S]) Z ?_
      have u:=Hn.out
      simp only[if_true,Prod.mk.injEq]at u
      obtain⟨rfl,rfl,rfl⟩:=u
      obtain⟨c,B⟩:=H4.out
      have:=X.out
      refine⟨Z,?_,?_⟩
      ·rw[show min (p+1) s.size=p+1 from by omega]
       (repeat(first|with_reducible exact c|with_reducible refine Scan.drew ?_|with_reducible refine Scan.drewN ?_ _|with_reducible refine Scan.alloc ?_ _|refine Scan.other ?_ _ (IJ I) _|refine Scan.open' (o:=true) ?_ _|refine Scan.at (k:=p) ?_ _|refine Scan.at' ?_))
      ·(repeat(first|with_reducible exact UM _ _|with_reducible refine Gk ?_|with_reducible refine Uc ?_ _|with_reducible refine U0 ?_ _|with_reducible refine Ut ?_ (by first|exact .inl rfl|exact .inr (AI _)|exact .inr (by simp)) _|with_reducible exact B))
   ·have P:=XaI G
    have ha:(if h:p<s.size then cls s[p].toNat==2 else true)=false:=by
      rw[dif_pos P];unfold LP at G;rw[dif_pos P]at G;simpa using G
    have L:(some (Eh s p),QT s p,true)=(t,k',o'):=by
      have:=J.out;rw[JZ,D,if_pos G]at this;exact this
    simp only[Prod.mk.injEq]at L
    obtain⟨rfl,rfl,rfl⟩:=L
    have Ha:=Lib.hid ha
    have Hp:=Lib.hid D
    clear ha D G hf J u
    go_wp2_with fail
    refine(XeW b s j q _ K hs hj).mono ?_;rintro e w1 ⟨rfl,g,z⟩;rw[Hp.out]at g
    have E:=hR.grown z (by simp;omega)
    have g1:=Np hg z
    clear K hg hR z
    go_wp2_with fail
    refine(Lb b s p q _ g false Ha.out).mono ?_;rintro e N ⟨rfl,M,rfl⟩
    have f2:=g.frozen 2
    have U:=g.cell 2 Z
    go_wp2_with fail
    refine(XhP b s p true _ ((g.drewN M).open' true) hs P).mono ?_;rintro e W ⟨rfl,Q,R⟩
    have y:=(Blk.setOther (E.drewN M) ⟨b,2,none⟩ a1 (.bool true)).grown R (by simp;omega)
    have T:=y.cell 0 Z
    have V:=y.cell 1 Z
    have S:=y.cell 2 Z
    have q0:=y.frozen 0
    have q1:=y.frozen 1
    have q2:=y.frozen 2
    have g3:=Np (Ut (Uc g1 M) (p:=⟨b,2,none⟩) (.inl Z) (.bool true)) R
    clear U f2 g E R
    have H3:=Lib.hid (⟨Q,g3,y⟩:Scan W b s (QT s p) true/\w.grownBy W (some b)/\Blk W w.heap.size _ _)
    generalize a2:Eh s p=tk
    have a6:=Lib.hid a2
    clear a2
    obtain⟨kd,tx,ps⟩:=tk
    simp only[Tok.val]
    go_wp2
    refine bodyPost_ret (v:=.tuple #[.agg #[.int .u8 kd,.string tx,Ve ps],.bool true]) (by simp[results,results164,go_sem,T,V,S]) Z ?_
    obtain⟨Q,g3,_⟩:=H3.out
    refine⟨by rw[a6.out];rfl,?_,?_⟩
    ·(repeat(first|with_reducible exact Q|with_reducible refine Scan.drew ?_|with_reducible refine Scan.drewN ?_ _|with_reducible refine Scan.alloc ?_ _|refine Scan.other ?_ _ (IJ I) _|refine Scan.at (k:=p) ?_ _|refine Scan.at' ?_))
    ·(repeat(first|with_reducible exact UM _ _|with_reducible refine Gk ?_|with_reducible refine Uc ?_ _|with_reducible refine U0 ?_ _|with_reducible refine Ut ?_ (by first|exact .inl rfl|exact .inr (AI _)|exact .inr (by simp)) _|with_reducible exact g3))
end
section
section
variable{P:Program}
theorem CP(w:World)(y:Nat)(t R e:TypeId)(i:TypeInfo)(z:Value)(d q:Nat)(T:P.underlying t=some (.slice e))(U:P.info? e=some i)(hz:i.zero=some z)(C:i.size=d)(G:i.bytes=q)(a1:z.cells.size=d)(X:0<d)(v:Value)(n:Nat)(Q:List Value)(A:w.ownsRow y e d v n Q)(a:Addr)(m c:Nat)(b:List Value)(S:b.length=m*d)(o:∀j u,b[j]?=some u->w.cell? (a.add j)=some u)(h1:∀u∈b,u.oneCell'=true)(E:n+m<=maxLen)(p:(n+m)*q<=140737488355328)(I:y<=w.heap.size)(hm:0<m):
 ∃L r w',(Builtin.append_ #[t,t] R #[v,.slice (some a) m c]).run P w=.ok (Vd L 0 (n+m) r) w'/\w'.ownsRow y e d (Vd L 0 (n+m) r) (n+m) (Q++b)/\w.grownBy w' v.ownBlock /\
  (v.ownBlock=some L\/L=w.heap.size):=by
 obtain⟨v',w',s,r1,r2,r3⟩:=run_append_own (P:=P) w y t R e i z d q T U hz C G a1 X v n Q A a m c b S o h1 E p I
 have a2:v' ≠ .slice none 0 0:=λh=>by have:=(r3.1 h).2;omega
 rcases r1.2 with⟨h,_⟩|⟨L,r,a4,rfl,a3⟩
 ·exact absurd h a2
 ·refine⟨L,r,w',s,r1,r2,?_⟩
  subst C
  rcases A.2 with⟨rfl,rfl⟩|⟨g,K,M,rfl,a6,hg,a5,a7,V,W⟩
  ·have D:=run_append_nil (P:=P) w t R e i z T U hz a m c b S o O (by simp only[maxLen]at E;omega) (by subst G;have hb:=p;simp only[As]at hb;omega)
   rw[s]at D
   simp only[Result.ok.injEq,Value.slice.injEq,FE,Addr.mk.injEq]at D
   exact .inr D.1.1.1
  ·by_cases B:n+m<=K
   ·have N:n*i.size+b.length<=M.size:=by rw[S,V,<-FB];exact Ft _ B
    have D:=run_append_room (P:=P) w t R e i T U g n K M hg a m c b S o h1 B N
    rw[s]at D
    simp only[Result.ok.injEq,Value.slice.injEq,FE,Addr.mk.injEq]at D
    exact .inl (by simp[Value.ownBlock,D.1.1.1])
   ·have J:∀j u,Q[j]?=some u->w.cell? ((⟨g,0,none⟩:Addr).add j)=some u:=A.cells (g:=g) Z
    have D:=run_append_grow (P:=P) w t R e i z T U hz ⟨g,0,none⟩ n K Q A.1 J a m c b S o O (by simp only[maxLen]at E;omega) (growslice_fits O (by subst G;exact p))
    rw[s]at D
    simp only[Result.ok.injEq,Value.slice.injEq,FE,Addr.mk.injEq]at D
    exact .inr D.1.1.1
theorem Mk{F:Fence}(w:World){D:Array Oper}{r:List Oper}{o:Oper}{a:Act}{Q:Exit->Act->World->Prop}(hg:o.guard=none)(s x:Operand)(t:TypeId)(y:o.op=Op.call {callee:=Callee.builtin Builtin.append,args:=#[s,x],argTypes:=#[t,t]})(q:Nat)(e:TypeId)(i:TypeInfo)(z:Value)(b g:Nat)(h1:P.underlying t=some (.slice e))(U:P.info? e=some i)(M:i.zero=some z)(N:i.size=b)(X:i.bytes=g)(R:z.cells.size=b)(h7:0<b)(v:Value)(k:Nat)(I:List Value)(hs:a.eval s=v)(C:w.ownsRow q e b v k I)(G:Addr)(m c:Nat)(d:List Value)(hx:a.eval x=.slice (some G) m c)(hn:d.length=m*b)(hc:∀j u,d[j]?=some u->w.cell? (G.add j)=some u)(L:∀u∈d,u.oneCell'=true)(V:k+m<=maxLen)(S:(k+m)*g<=140737488355328)(b3:q<=w.heap.size)(T:0<m)(hK:∀A p w',w'.ownsRow q e b (Vd A 0 (k+m) p) (k+m) (I++d)->w.grownBy w' v.ownBlock->(v.ownBlock=some A\/A=w.heap.size)->wpListIn F n P D Q r (a.put o.dst (Vd A 0 (k+m) p)) w'):
 wpListIn F n P D Q (o::r) a w:=by
 refine wpListIn_plain hg λK J=>?_
 obtain⟨A,p,w',B,W,r2,r3⟩:=CP (P:=P) w q t o.type e i z b g h1 U M N X R h7 v k I C G m c d hn hc L V S b3 T
 unfold Oper.wpIn
 refine⟨?_,?_⟩
 ·simp[Oper.about,y,resolve,Target.leads,Sem.run_pure]
 ·rw[Oper.semAt_plain F _ _ (by rw[y];intro c E;cases E)]
  simp[execOp,y,resolve,invoke,builtin,hs,hx,B,Result.andThen]
  exact J _ _ (hK A p w' W r2 r3)
end
theorem ME{d:Nat}{e:TypeId}{c:Nat}{v:Value}{o:List Value}(h:w.ownsRow d e c v n o)(q:∀b∈v.ownBlock.toList,w'.heap[b]?=w.heap[b]?):w'.ownsRow d e c v n o:=by
 obtain⟨t,j⟩:=h
 refine⟨t,?_⟩
 rcases j with j|⟨g,m,i,s,p,u,r⟩
 ·exact .inl j
 ·subst s
  exact .inr ⟨g,m,i,Z,p,(q g (by simp[Value.ownBlock])).trans u,r⟩
end
section
open Go.RowKit Go.Shelf
structure Frm (fp:List Nat) (w w':World):Prop where
 os:w'.os=w.os
 tape:w'.tape=w.tape
 output:w'.output=w.output
 size:w.heap.size<=w'.heap.size
 block:∀b,b<w.heap.size->b∉fp->w'.heap[b]?=w.heap[b]?
theorem Frm.refl(fp:List Nat)(w:World):Frm fp w w:=⟨Z,Z,Z,AI _,λ_ _ _=>rfl⟩
theorem Frm.mono{c:List Nat}(h:Frm fp w w')(hs:∀b∈fp,b∈c\/w.heap.size<=b):Frm c w w':=
 ⟨h.os,h.tape,h.output,h.size,λb e g=>h.block b e λd=>by rcases hs b d with h1|h1;exact g h1;omega⟩
theorem Frm.trans{b c:World}(h:Frm fp a b)(k:Frm fp b c):Frm fp a c:=
 ⟨k.os.trans h.os,k.tape.trans h.tape,k.output.trans h.output,AW h.size k.size,λi d e=>(k.block i (FC d h.size) e).trans (h.block i d e)⟩
theorem Frm.trans_new{e:List Nat}{b c:World}(h:Frm fp a b)(k:Frm e b c)(j:∀x∈e,x∈fp\/a.heap.size<=x):Frm fp a c:=
 ⟨k.os.trans h.os,k.tape.trans h.tape,k.output.trans h.output,AW h.size k.size,λi d g=>(k.block i (FC d h.size) (λm=>by rcases j i m with h1|h1;exact g h1;omega)).trans (h.block i d g)⟩
theorem Frm.of_grown{row:Option Nat}(h:w.grownBy w' row)(fp:List Nat)(c:∀k,row=some k->k∈fp):Frm fp w w':=
 ⟨h.os,h.tape,h.output,h.size,λb d g=>h.block b d λe=>g (c b e.symm)⟩
theorem Frm.below{B:Nat}(h:Frm fp w w')(g:B<=w.heap.size)(d:∀b∈fp,B<=b):Below B w w':=
 ⟨h.os,h.tape,h.output,h.size,λb e=>h.block b O λc=>by have:=d b c;omega⟩
theorem Frm.drewN(h:Frm fp a w)(n:Nat):Frm fp a (w.drewN n):=⟨h.os,h.tape,h.output,h.size,h.block⟩
theorem Frm.drew(h:Frm fp a w):Frm fp a w.drew:=⟨h.os,h.tape,h.output,h.size,h.block⟩
theorem Frm.alloc(h:Frm fp a w)(o:Obj):Frm fp a (w.alloc o):=
 ⟨h.os,h.tape,h.output,AW h.size (by simp),λi c b=>(Below.heap_alloc w o i (FC c h.size)).trans (h.block i c b)⟩
theorem Frm.setCell(h:Frm fp a w){p:Addr}(hp:p.block∈fp\/a.heap.size<=p.block)(u:Value):Frm fp a (w.setCell p u):=
 ⟨h.os,h.tape,h.output,by simpa[World.setCell]using h.size,λi c b=>(Below.heap_setCell w p u i (by
  rintro rfl
  rcases hp with hp|hp
  ·exact b hp
  ·omega)).trans (h.block i c b)⟩
theorem Frm.putObj(h:Frm fp a w){r:Nat}(hp:r∈fp\/a.heap.size<=r)(o:Obj):Frm fp a (w.putObj r o):=
 ⟨h.os,h.tape,h.output,by simpa using h.size,λi c b=>(World.putObj_heap_other (by
  rintro rfl
  rcases hp with hp|hp
  ·exact b hp
  ·omega)).trans (h.block i c b)⟩
theorem Blk.frm{c:List Value}{t:TypeId}(h:Blk w b c t)(e:Frm fp w w')(d:b∉fp):Blk w' b c t:=
 (e.block b h.lt d).trans h
theorem Xhq(f:FuncId):Fence.wide.fn f=True:=rfl
theorem BD:Fence.wide.depth=none:=rfl
theorem BC(l:Nat)(f:FuncId):(Fence.wide.inRound l).fn f=True:=rfl
theorem Ml(l:Nat):(Fence.wide.inRound l).depth=none:=rfl
section
variable{α:Type}
structure Local (J:List α->List Nat->World->Prop):Prop where
 stable:∀pre fp W W',J pre fp W->W.heap.size<=W'.heap.size->(∀b∈fp,W'.heap[b]?=W.heap[b]?)->J pre fp W'
 lt:∀pre fp W,J pre fp W->∀b∈fp,b<W.heap.size
def Xsj(n:Nat)(P:Program)(s:Nat)(q:Array Value)(m:α->Array Value)(j:List α)(own wr:List Nat)(r:World):Prop:=
 ∀(l:Nat)(J p:List α->List Nat->World->Prop)(W:World)(fp:List Nat),Frm [] r W->Local J->Local p ->
  (∀c x o g,J c g o->c++[x] <+: j->YieldAt Fence.wide (n-1) P l (m x) o λe i=>∃d,Frm g o i/\(∀b∈d,b∈g\/o.heap.size<=b) /\
   ((e=.returned (.bool true)/\J (c++[x]) d i)\/(e=.returned (.bool false)/\p (c++[x]) d i))) ->
  J [] fp W->(∀b∈own,b∉fp) ->
  CallsIn Fence.wide n P s (#[.func (.yield l) #[] #[]]++q) W λe i=>(∃v,e=.returned v)/\Frm (wr++fp) W i/\∃d,(J j d i\/∃c,c <+: j/\p c d i)
def XjL(I:List α->List Nat->World->Prop)(i:Code->List α->List Nat->World->Prop)(e:List α)(fp:List Nat)(W g:World):Exit->Act->World->Prop
 |.normal,_,d=>Frm fp g d/\∃c,(∀b∈c,b∈fp\/W.heap.size<=b)/\I e c d
 |.ret,_,d=>Frm fp g d/\∃c,(∀b∈c,b∈fp\/W.heap.size<=b)/\i .ret e c d
 |.exit id,_,d=>Frm fp g d/\∃c,(∀b∈c,b∈fp\/W.heap.size<=b)/\i (.exit id) e c d
 |.goto t,_,d=>Frm fp g d/\∃c,(∀b∈c,b∈fp\/W.heap.size<=b)/\i (.goto t) e c d
 |.panic _,_,_=>False
 |.outgrown,_,_=>False
theorem Lj{P:Program}{g:Operand}{ps:Array Tmp}{assign body:Code}{Q:Exit->Act->World->Prop}{a:Act}{gf:Nat}{lb:Array Value}(hg:a.eval g=.func (.func gf) #[] lb)(eg:∀z w,(callFunc gf z).run P w=.ok (.enter gf z) w){T:α->Array Value}{all:List α}{own wr:List Nat}(aL:Xsj (n-1) P gf lb T all own wr w)(b2:∀x,(T x).size=ps.size)(I:List α->List Nat->World->Prop)(Ix:Code->List α->List Nat->World->Prop)(hI:Local I)(V:∀c,Local (Ix c))(y:List Nat)(h0:I [] y w)(aH:∀b∈own,b∉y/\b<w.heap.size)(Ax:α->World->Act->World->Prop)(a4:∀(l:Nat)(x:α)(W:World)(K:Act->World->Prop),(∀a₁ B,Ax x W a₁ B->K a₁ B) ->
     assign.wpIn (Fence.wide.inRound l) (n-1-1) P (Exit.then K (λ_ _ _=>False)) {tmps:=(ps.zip (T x)).foldl (λt (p,v)=>t.setIfInBounds p v) a.tmps,defers:=[]} W)(hAx:∀x W a₁ B,Ax x W a₁ B->Frm [] W B)(aE:∀(l:Nat)(i:List α)(x:α)(W B W₂:World)(a₁:Act)(fp:List Nat),I i fp W->i++[x] <+: all->Ax x W a₁ B->Frm [l] B W₂->W₂.heap.size=B.heap.size->l∉fp->l<W.heap.size ->
     body.wpIn (Fence.wide.inRound l) (n-1-1) P (XjL I Ix (i++[x]) fp W W₂) a₁ W₂)(aB:∀(D:Nat)(fp:List Nat)(W:World),I all fp W->W.heap[D]?=some (.deferred (some []))->Frm (wr++y) w W->w.heap.size<=D->D∉fp->Q .normal {a with defers:={target:=.collected D,args:=#[]}::a.defers} W)(aC:∀(D:Nat)(c:Code)(i:List α)(fp:List Nat)(W:World),i <+: all->Ix c i fp W->W.heap[D]?=some (.deferred (some []))->Frm (wr++y) w W->w.heap.size<=D->D∉fp ->
     c.wpIn Fence.wide n P Q {a with defers:={target:=.collected D,args:=#[]}::a.defers} W):
   (Code.rangeFunc g ps assign body).wpIn Fence.wide n P Q a w:=by
 refine wpIn_rangeFunc ?_
 intro fn aZ
 rw[show Fence.wide.round=none from Z]
 obtain⟨rec,r⟩:∃rec:LoopState->Option Code->Loop,rec=λst pe=>{state:=st,pending:=pe,fn,tmps:=a.tmps,params:=ps,assign,body,defers:=w.heap.size}:=⟨_,Z⟩
 obtain⟨W1,a5⟩:∃W1,(w.alloc (.deferred (some []))).alloc (.loop (rec .ready none))=W1:=⟨_,Z⟩
 obtain⟨D,hD⟩:∃D,D=w.heap.size:=⟨_,Z⟩
 obtain⟨L,hL⟩:∃L,L=w.heap.size+1:=⟨_,Z⟩
 have aX:W1.heap[L]?=some (.loop (rec .ready none)):=by
   rw[<-a5,hL];have:=World.alloc_heap_new (w.alloc (.deferred (some []))) (.loop (rec .ready none));rwa [World.size_alloc]at this
 have aR:W1.heap[D]?=some (.deferred (some [])):=by
   rw[<-a5,hD];exact(Below.heap_alloc _ _ _ (by simp)).trans (World.alloc_heap_new w _)
 have E:Frm [] w W1:=by rw[<-a5];exact((Frm.refl _ _).alloc _).alloc _
 have a2:=hI.lt _ _ _ h0
 have aV:I [] y W1:=hI.stable _ _ _ _ h0 E.size λb hb=>E.block b (a2 b hb) (by simp)
 refine⟨w.heap.size+1,[{target:=.collected w.heap.size,args:=#[]}],W1,{target:=.fn (.func gf) lb,args:=#[.func (.yield (w.heap.size+1)) #[] #[]]},W1,gf,
   #[.func (.yield (w.heap.size+1)) #[] #[]]++lb,W1,?_,?_,?_,?_,λh=>by simp[Fence.wide]at h,?_⟩
 ·rw[<-a5,r];exact run_enterLoop_outer _ _ _ _ _
 ·simp only[resolve,hg]
  simp[go_sem]
 ·intro f' b7;trivial
 ·simp[invoke,go_sem,eg]
 ·rw[<-hL,<-hD]
  -- aQ caller's facts with aQ b6 of b4-aK
  have X:∀(K:List α->List Nat->World->Prop)(st:LoopState)(pe:Option Code),Local K ->
      Local (λi fp W=>∃s,fp=L::D::s/\L∉s/\D∉s/\K i s W/\W.heap[L]?=some (.loop (rec st pe))/\W.heap[D]?=some (.deferred (some []))):=by
    intro K st pe hK
    refine⟨?_,?_⟩
    ·rintro i fp W W' ⟨s,rfl,h1,h2,h3,h4,h5⟩ hz a1
     exact⟨s,Z,h1,h2,hK.stable _ _ _ _ h3 hz (λb hb=>a1 b (by simp[hb])),(a1 L (by simp)).trans h4,(a1 D (by simp)).trans h5⟩
    ·rintro i fp W ⟨s,rfl,h1,h2,h3,h4,h5⟩ b hb
     simp only[Ap]at hb
     rcases hb with rfl|rfl|hb
     ·exact(FJ.1 h4).1
     ·exact(FJ.1 h5).1
     ·exact hK.lt _ _ _ h3 b hb
  have aW:L∉y:=λh=>by have:=a2 _ h;omega
  have aS:D∉y:=λh=>by have:=a2 _ h;omega
  refine(aL L
    (λi fp W=>∃s,fp=L::D::s/\L∉s/\D∉s/\I i s W/\W.heap[L]?=some (.loop (rec .ready none))/\W.heap[D]?=some (.deferred (some [])))
    (λi fp W=>∃c s,fp=L::D::s/\L∉s/\D∉s/\Ix c i s W/\W.heap[L]?=some (.loop (rec .done (some c)))/\W.heap[D]?=some (.deferred (some [])))
    W1 (L::D::y) E (X I _ _ hI) ?_ ?_ ⟨y,Z,aW,aS,aV,aX,aR⟩ ?_).mono ?_
  ·refine⟨?_,?_⟩
   ·rintro i fp W W' ⟨c,h⟩ hz a1
    exact⟨c,(X (Ix c) .done (some c) (V c)).stable i fp W W' h hz a1⟩
   ·rintro i fp W ⟨c,h⟩ b hb
    exact(X (Ix c) .done (some c) (V c)).lt i fp W h b hb
  ·
   rintro i x W b5 ⟨s,rfl,M,G,hi,hl,hk⟩ aT
   have aN:L<W.heap.size:=(FJ.1 hl).1
   have aG:D<W.heap.size:=(FJ.1 hk).1
   have aF:D≠L:=O
   have hy:=run_yield (P:=P) (args:=T x) hl (by rw[r];exact b2 x)
   rw[r]at hy
   refine⟨fn,_,assign,body,hy,roundIn_of_wpIn aZ (a4 _ x W _ λa₁ B aM=>?_)⟩
   have hf:=hAx _ _ _ _ aM
   have aJ:B.heap[L]?=some (.loop (rec .ready none)):=(hf.block L aN (by simp)).trans hl
   have b1:B.heap[D]?=some (.deferred (some [])):=(hf.block D aG (by simp)).trans hk
   have a9:L<B.heap.size:=(FJ.1 aJ).1
   refine⟨_,run_beginRound aJ (by rw[r]),?_⟩
   have aY:(B.putObj L (.loop {rec .ready none with state:=.busy})).heap[L]?=some (.loop {rec .ready none with state:=.busy}):=World.putObj_heap_same a9
   have aU:(B.putObj L (.loop {rec .ready none with state:=.busy})).heap[D]?=some (.deferred (some [])):=(World.putObj_heap_other aF).trans b1
   have b3:Frm [L] B (B.putObj L (.loop {rec .ready none with state:=.busy})):=(Frm.refl _ _).putObj (.inl (by simp)) _
   refine wpIn_mono (aE _ i x W B _ a₁ s hi aT aM b3 (by simp) M aN) ?_
   have aP:L<(B.putObj L (.loop {rec .ready none with state:=.busy})).heap.size:=by simpa using a9
   have aD:D<(B.putObj L (.loop {rec .ready none with state:=.busy})).heap.size:=by have:=hf.size;simp;omega
   have a7:∀(j:Option Code)(J:World),Frm s (B.putObj L (.loop {rec .ready none with state:=.busy})) J ->
       (Instr.endRound L j).run P J=.ok (.bool j.isNone) (J.putObj L (.loop (rec (if j.isNone then .ready else .done) j))) /\
       (J.putObj L (.loop (rec (if j.isNone then .ready else .done) j))).heap[L]?=some (.loop (rec (if j.isNone then .ready else .done) j)) /\
       (J.putObj L (.loop (rec (if j.isNone then .ready else .done) j))).heap[D]?=some (.deferred (some []))/\L<J.heap.size /\
       Frm (L::D::s) W (J.putObj L (.loop (rec (if j.isNone then .ready else .done) j))):=λj J A=>by
     have aI:=(A.block L aP M).trans aY
     have:=run_endRound (P:=P) j aI
     have a8:=(FJ.1 aI).1
     rw[r]at this⊢
     refine⟨this,World.putObj_heap_same a8,(World.putObj_heap_other aF).trans ((A.block D aD G).trans aU),a8,?_⟩
     refine Frm.putObj ?_ (.inl (by simp)) _
     refine((hf.mono (by simp)).trans (Frm.putObj (Frm.refl _ _) (.inl (by simp)) _)).trans (A.mono (λb hb=>.inl (by simp[hb])))
   have put:∀(K:List α->List Nat->World->Prop),Local K->∀(xs:List α)(d:List Nat)(J:World)(o:Obj),K xs d J->L∉d->K xs d (J.putObj L o):=λK hK xs d J o h hn=>
     hK.stable _ _ _ _ h (by simp) (λb hb=>World.putObj_heap_other (λe=>hn (e▸hb)))
   have U:∀d:List Nat,(∀b∈d,b∈s\/W.heap.size<=b)->L∉d/\D∉d:=λd h=>
     ⟨λhm=>by rcases h _ hm with h1|h1;exact M h1;omega,λhm=>by rcases h _ hm with h1|h1;exact G h1;omega⟩
   have a6:∀d:List Nat,(∀b∈d,b∈s\/W.heap.size<=b)->∀b∈L::D::d,b∈L::D::s\/W.heap.size<=b:=λd h b hb=>by
     simp only[Ap]at hb⊢
     rcases hb with rfl|rfl|hb
     ·simp
     ·simp
     ·rcases h b hb with h1|h1
      ·simp[h1]
      ·exact .inr h1
   rintro e a3 J hp
   cases e with
   |normal=>
    obtain⟨A,d,u,S⟩:=hp
    obtain⟨hr,N,R,_,m⟩:=a7 none J A
    obtain⟨n1,n2⟩:=U _ u
    exact⟨_,_,hr,L::D::d,m,a6 _ u,.inl ⟨Z,d,Z,n1,n2,put I hI _ _ _ _ S n1,N,R⟩⟩
   |ret=>
    obtain⟨A,d,u,S⟩:=hp
    obtain⟨hr,N,R,_,m⟩:=a7 (some .ret) J A
    obtain⟨n1,n2⟩:=U _ u
    exact⟨_,_,hr,L::D::d,m,a6 _ u,.inr ⟨Z,.ret,d,Z,n1,n2,put _ (V _) _ _ _ _ S n1,N,R⟩⟩
   |exit id=>
    obtain⟨A,d,u,S⟩:=hp
    obtain⟨hr,N,R,_,m⟩:=a7 (some (.exit id)) J A
    obtain⟨n1,n2⟩:=U _ u
    exact⟨_,_,hr,L::D::d,m,a6 _ u,.inr ⟨Z,.exit id,d,Z,n1,n2,put _ (V _) _ _ _ _ S n1,N,R⟩⟩
   |goto t=>
    obtain⟨A,d,u,S⟩:=hp
    obtain⟨hr,N,R,_,m⟩:=a7 (some (.goto t)) J A
    obtain⟨n1,n2⟩:=U _ u
    exact⟨_,_,hr,L::D::d,m,a6 _ u,.inr ⟨Z,.goto t,d,Z,n1,n2,put _ (V _) _ _ _ _ S n1,N,R⟩⟩
   |panic ch=>exact hp.elim
   |outgrown=>exact hp.elim
  ·intro b hb
   obtain⟨h1,h2⟩:=aH b hb
   simp only[Ap,not_or]
   exact⟨O,O,h1⟩
  ·
   have aA:∀W2:World,Frm (wr++(L::D::y)) W1 W2->Frm (wr++y) w W2:=λW2 m=>
     ⟨m.os.trans E.os,m.tape.trans E.tape,m.output.trans E.output,AW E.size m.size,λb hb hn=>by
       simp only[A8,not_or]at hn
       refine(m.block b (by have:=E.size;omega) ?_).trans (E.block b hb (by simp))
       simp only[A8,Ap,not_or]
       exact⟨hn.1,O,O,hn.2⟩⟩
   rintro e W2 ⟨⟨v,rfl⟩,m,d,(⟨s,rfl,M,G,hi,hl,hk⟩|⟨i,aO,c,s,rfl,M,G,hi,hl,hk⟩)⟩
   ·refine⟨none,_,by have:=run_endLoop (P:=P) hl (by rw[r];simp);rw[r]at this;exact this,?_⟩
    rw[hD]at hk G⊢
    refine aB _ s _ (hI.stable _ _ _ _ hi (by simp) (λb hb=>World.putObj_heap_other (λe=>M (e▸hb)))) ((World.putObj_heap_other O).trans hk) ?_ (AI _) G
    exact(aA _ m).putObj (.inr O) _
   ·refine⟨some c,_,by have:=run_endLoop (P:=P) hl (by rw[r];simp);rw[r]at this;exact this,?_⟩
    rw[hD]at hk G⊢
    exact aC _ c i s _ aO ((V c).stable _ _ _ _ hi (by simp) (λb hb=>World.putObj_heap_other (λe=>M (e▸hb)))) ((World.putObj_heap_other O).trans hk) ((aA _ m).putObj (.inr O) _) (AI _) G
end
end
section
theorem MI{s:ByteArray}:∀{f k o t c d},JZ s f k o=(some t,c,d)->k<=s.size->c<=s.size/\2*(s.size-c)+d.toNat<2*(s.size-k)+o.toNat
 |0,k,o,t,c,d,h,e=>by simp[JZ]at h
 |f+1,k,o,t,c,d,h,e=>by
  have q:=Dh s k
  have n:=Dg s k e
  rw[JZ]at h
  split at h
  ·rename_i m
   have i:=XaI m
   have j:=Cw s _ i
   have p:=Cx s (Gq s k)
   simp only[Prod.mk.injEq]at h
   obtain⟨_,rfl,rfl⟩:=h
   exact⟨j,by simp;omega⟩
  ·split at h
   ·rename_i g
    simp only[Prod.mk.injEq]at h
    obtain⟨_,rfl,rfl⟩:=h
    subst g
    exact⟨O,by simp;omega⟩
   ·split at h
    ·simp at h
    ·obtain⟨a,b⟩:=MI h O
     exact⟨a,by simp at b;omega⟩
def Xa9(s:ByteArray):Nat->Nat->Bool->List Tok
 |0,_,_=>[]
 |f+1,k,o=>
  match JZ s (s.size+1) k o with
  |(some t,b,c)=>t::Xa9 s f b c
  |(none,_,_)=>[]
def Bl(s:ByteArray):List Tok:=Xa9 s (2*s.size+1) 0 false
theorem Xa8(s:ByteArray):∀f k o,(Xa9 s f k o).length<=f
 |0,_,_=>AI _
 |f+1,k,o=>by
  rw[Xa9];split
  ·simp;exact Xa8 s f _ _
  ·simp
theorem Xe8{s:ByteArray}:∀{f k o t c b},JZ s f k o=(some t,c,b)->(t.kind=1\/t.kind=2\/(t.kind=3/\0<t.text.size)\/t.kind=4)/\t.text.size<=s.size
 |0,k,o,t,c,b,h=>by simp[JZ]at h
 |f+1,k,o,t,c,b,h=>by
  rw[JZ]at h
  split at h
  ·rename_i g
   have e:=XaI g
   have i:=Cw s _ e
   have j:=Cx s (Gq s k)
   simp only[Prod.mk.injEq,FE]at h
   obtain⟨rfl,_,_⟩:=h
   have d:(s.extract (Gq s k) (QT s (Gq s k))).size=QT s (Gq s k)-Gq s k:=by
    rw[ByteArray.size_extract];omega
   refine⟨?_,by simp only[Eh];rw[d];omega⟩
   unfold Eh EZ
   simp only
   split
   ·exact .inl Z
   ·split
    ·exact .inr (.inl Z)
    ·exact .inr (.inr (.inl ⟨Z,by rw[d];omega⟩))
  ·split at h
   ·simp only[Prod.mk.injEq,FE]at h
    obtain⟨rfl,_,_⟩:=h
    exact⟨by simp,by simp⟩
   ·split at h
    ·simp at h
    ·exact Xe8 h
theorem XjU{b:ByteArray}{ps:Nat}(h:0<b.size):UR ⟨3,b,ps⟩=if cls b[0].toNat=6 then 0 else 40:=by
 unfold UR LP;simp[h]
theorem XjT(i:Nat)(b:ByteArray)(g:Nat)(w:World)(p:i=1\/i=2\/(i=3/\0<b.size)\/i=4)(hs:b.size<=16384):
 Calls prog 165 #[(Tok.mk i b g).val] w λe w'=>e=.returned (Ve (UR ⟨i,b,g⟩))/\w.grownBy w' none:=by
 unfold Tok.val
 simp only
 rcases p with rfl|rfl|⟨rfl,q⟩|rfl
 ·by_cases s:16<b.size
  all_goals
   have c:Hid (UR ⟨1,b,g⟩=if 16<b.size then 42 else 0):=Lib.hid (by simp[UR])
   go_enter func165,ntmps165
   go_wp2
   go_returns
   exact⟨Gw (by rw[c.out];simp;omega),World.grownBy_alloc _ _ _⟩
 ·cases o:Lv b
  all_goals
   have c:Hid (UR ⟨2,b,g⟩=if Lv b then 0 else 41):=Lib.hid (by simp[UR])
   have n:=Lib.hid o
   have r:b.size<=maxLen:=by unfold maxLen;omega
   clear o
   go_enter func165,ntmps165
   go_wp2_with (go_at_call 209;refine(XoZ _ _ r _ n.out).mono ?_;rintro e w' ⟨rfl,rfl⟩)
   go_returns
   exact⟨Gw (by rw[c.out,n.out];simp),World.grownBy_alloc _ _ _⟩
 ·have c:=Lib.hid (XjU (ps:=g) q)
  by_cases d:cls b[0].toNat=6
  ·have j:(cls ↑b[0].toNat != 6)=false:=by simpa using d
   have m:=Lib.hid d
   clear d
   go_enter func165,ntmps165
   go_wp2_with (go_at_call 93;refine(V9 _ _).mono ?_;rintro e w' ⟨rfl,rfl⟩)
   go_returns
   exact⟨Gw (by rw[c.out,if_pos m.out]),World.grownBy_alloc _ _ _⟩
  ·have j:(cls ↑b[0].toNat != 6)=true:=by simpa using d
   have m:=Lib.hid d
   clear d
   go_enter func165,ntmps165
   go_wp2_with (go_at_call 93;refine(V9 _ _).mono ?_;rintro e w' ⟨rfl,rfl⟩)
   go_returns
   exact⟨Gw (by rw[c.out,if_neg m.out]),World.grownBy_alloc _ _ _⟩
 ·go_enter func165,ntmps165
  go_wp2
  go_returns
  exact⟨Gw (by simp[UR]),World.grownBy_alloc _ _ _⟩
end
section
open Go.RowKit Go.Shelf
attribute [local go_sem] Oper.semAt_some Xhq BD BC Ml
def XhQ(t:Tok):Array Value:=#[t.val,.int .i64 (UR t)]
def Tok.cells(t:Tok):List Value:=[.int .u8 t.kind,.string t.text,.int .i64 t.pos]
def Tok.none:Tok:=⟨0,ByteArray.empty,0⟩
def Ba:Value->Nat | .bool true=>1|_=>0
def XoF(s:ByteArray)(b:Nat)(wr:World):Nat:=
 match wr.heap[b]? with
 |some (.cells c _ _)=>2*(s.size-(intOf (c.getD 1 undef)).toNat)+Ba (c.getD 2 undef)
 |_=>0
theorem XeK{wr:World}(h:Scan wr b s k o):XoF s b wr=2*(s.size-k)+o.toNat:=by
 have c:wr.heap[b]?=some (.cells [Value.string s,Ve k,.bool o].toArray 191 (0,0)):=h
 unfold XoF
 rw[c]
 cases o<;>simp[intOf,Ba]
theorem Nq{s:ByteArray}:∀{f k o c d},JZ s f k o=(none,c,d)->k<=s.size->c<=s.size/\2*(s.size-c)+d.toNat<=2*(s.size-k)+o.toNat
 |0,k,o,c,d,h,e=>by
  simp only[JZ,Prod.mk.injEq,true_and]at h
  obtain⟨rfl,rfl⟩:=h;exact⟨e,AI _⟩
 |f+1,k,o,c,d,h,e=>by
  have i:=Dh s k
  have g:=Dg s k e
  rw[JZ]at h
  split at h
  ·simp at h
  ·split at h
   ·simp at h
   ·split at h
    ·simp only[Prod.mk.injEq,true_and]at h
     obtain⟨rfl,rfl⟩:=h
     exact⟨O,by simp;omega⟩
    ·obtain⟨a,b⟩:=Nq h O
     exact⟨a,by simp at b;omega⟩
theorem Xi3(b:Nat)(s:ByteArray)(k:Nat)(o:Bool)(w:World)(n:Scan w b s k o)(hs:s.size<=16384)(q:k<=s.size)(t:Option Tok)(d:Nat)(c:Bool)(u:Hid (JZ s (s.size+1) k o=(t,d,c)))(j:Nat)(g:ByteArray)(i:Nat)(p:Hid (t.getD Tok.none=⟨j,g,i⟩)):
 Calls prog 164 #[Vc b 0] w λe w'=>e=.returned (.tuple #[.agg #[.int .u8 j,.string g,Ve i],.bool t.isSome])/\Scan w' b s d c/\w.grownBy w' (some b):=
 (XlR b s k o w n hs q (s.size+1) O t d c u.out).mono λe w' ⟨m,r⟩=>⟨by rw[m];have:=p.out;unfold Tok.none at this;rw[this];rfl,r⟩
theorem BI{f:Nat}{t:Option Tok}{c:Nat}{d:Bool}(e:JZ s (s.size+1) k o=(t,c,d))(g:k<=s.size)(i:2*(s.size-k)+o.toNat<f):
 ∃b,Xa9 s f k o=t.toList++(if t.isSome then Xa9 s b c d else[])/\(t.isSome=true->2*(s.size-c)+d.toNat<b)/\b+1=f:=by
 obtain⟨b,rfl⟩:∃b,f=b+1:=⟨f-1,O⟩
 refine⟨b,?_,?_,Z⟩
 ·rw[Xa9,e];cases t<;>simp
 ·cases t with
  |none=>simp
  |some t=>intro _;have:=(MI e g).2;omega
def Xsh(s:ByteArray)(B g:Nat)(J:List Tok->List Nat->World->Prop)(c:List Nat)(W:World)(d:List Tok)(fp:List Nat)(k:Nat)(o:Bool)(T:Nat)(e:Option Tok)(wr:World):Prop:=
 Scan wr B s k o/\k<=s.size/\Blk wr g [.pointer (some ⟨B,0,none⟩)] 269/\J d fp wr/\(∀b∈fp,b∈c\/W.heap.size<=b)/\T∉fp/\B∉fp/\g∉fp/\T≠B/\T≠g/\W.heap.size<=T/\Frm (B::c) W wr /\
  (∃f,(e.isSome=true->2*(s.size-k)+o.toNat<f)/\Bl s=d++e.toList++(if e.isSome then Xa9 s f k o else[]))/\(∀t,e=some t->∃j q,JZ s (s.size+1) j q=(some t,k,o))
theorem Xhl{l:Nat}{P:Program}{i:Array Value}{J o:List Nat->World->Prop}(h:YieldAt Fence.wide n P l i W λe g=>∃d,Frm fp W g/\(∀b∈d,b∈fp\/W.heap.size<=b)/\((e=.returned (.bool true)/\J d g)\/(e=.returned (.bool false)/\o d g))):
 YieldAt Fence.wide n P l i W λe g=>∃c:Bool,e=.returned (.bool c)/\Hid (∃d,Frm fp W g/\(∀b∈d,b∈fp\/W.heap.size<=b)/\(if c then J d g else o d g)):=
 h.mono λe g ⟨d,p,m,j⟩=>by
  rcases j with⟨rfl,j⟩|⟨rfl,j⟩
  ·exact⟨true,Z,Lib.hid ⟨d,p,m,by simpa using j⟩⟩
  ·exact⟨false,Z,Lib.hid ⟨d,p,m,by simpa using j⟩⟩
set_option maxRecDepth 100000 in
theorem Xc0(n:Nat)(B R:Nat)(s:ByteArray)(hs:s.size<=16384)(w0:World)(aW:Scan w0 B s 0 false)(b3:Blk w0 R [Vc B 0] 269)(aG:B≠R):
   Xsj n prog 163 #[Vc R 0] XhQ (Bl s) [B,R] [B] w0:=by
 intro l J Jx W r hW hJ bR hY h0 a3
 have hS:=hW.block B aW.lt (by simp)
 have hX:=b3.frm hW (by simp)
 replace hS:Scan W B s 0 false:=hS.trans aW
 obtain⟨aN,bA⟩:B∉r/\R∉r:=⟨a3 B (by simp),a3 R (by simp)⟩
 obtain⟨t1,k1,o1,aF⟩:∃t k o,JZ s (s.size+1) 0 false=(t,k,o):=⟨_,_,_,Z⟩
 have bJ:(prog).follows .mixedOrders=true:=by kernel_rfl
 obtain⟨g,d,i,aV⟩:∃g d i,t1.getD Tok.none=⟨g,d,i⟩:=⟨_,_,_,Z⟩
 have b1:=hX.cell 0 Z
 have z:=Lib.hid aF
 have a5:=Lib.hid aV
 have bK:=hS.lt
 have bI:=hX.lt
 have a1:=Lib.hid (hJ.lt _ _ _ h0)
 clear aF aV
 refine callsIn_of_wp func163 Z trivial ?_ Z
 simp only[ntmps163,Fr,AY,Fw,Nat.reduceAdd,Nat.reduceSub,Array.replicate_succ,Array.replicate_zero,List.push_toArray,List.append_toArray,FI,Au]
 gi_wp2_with (gi_at_call 164;refine(callsIn_wide.2 (Xi3 B s 0 false _ hS hs (AU _) t1 k1 o1 z g d i a5)).mono ?_;rintro e w1 ⟨rfl,aM,K⟩)
 gi_loopw [3,4] (λtp aB wr=>∃(u:List Tok)(fp:List Nat)(k:Nat)(o:Bool)(T:Nat)(tk:Option Tok)(g:Nat)(d:ByteArray)(i:Nat),tp=Vc T 0/\aB=.bool tk.isSome/\Hid (tk.getD Tok.none=⟨g,d,i⟩) /\
     Blk wr T [.int .u8 g,.string d,Ve i] 128/\Xsh s B R J r W u fp k o T tk wr)
   (λ_ aB wr=>XoF s B wr+Ba aB)
 case atStart=>
   have hz:=K.size
   obtain⟨f',h1,h2,h3⟩:=BI (f:=2*s.size+1) z.out (AU _) (by simp)
   refine⟨[],r,k1,o1,w1.heap.size,t1,g,d,i,Z,Z,a5,Blk.new _ _ _,aM.alloc _,?_,(hX.grown K (by simp[aG.symm])).alloc _,?_,λb G=>.inl G,?_,aN,bA,O,O,hz,?_,⟨f',h2,by simpa[Bl]using h1⟩,?_⟩
   ·cases t1 with
    |none=>exact(Nq z.out (AU _)).1
    |some t=>exact(MI z.out (AU _)).1
   ·refine hJ.stable _ _ _ _ h0 (by simp;omega) λb G=>?_
    have a4:=a1.out b G
    rw[Below.heap_alloc _ _ _ O]
    exact K.block b a4 (by rintro h;cases h;exact aN G)
   ·intro hm;have:=a1.out _ hm;omega
   ·exact(Frm.of_grown K _ (by simp)).alloc _
   ·rintro t rfl;exact⟨0,false,z.out⟩
 case round=>
   obtain⟨u,fp,k,o,T,tk,g,d,i,rfl,rfl,aR,hT,aP⟩:=hrel
   clear hS hX b1 z a5 aM K
   obtain⟨hS,hk,hX,a8,aO,n1,n2,n3,n4,n5,bT,aJ,hf,hj⟩:=aP
   cases tk with
   |none=>
    gi_wp2
    go_end0
    obtain⟨f,_,N⟩:=hf
    refine⟨⟨_,Z⟩,aJ,fp,.inl ?_⟩
    ·simp at N;rw[N];exact a8
   |some t=>
    obtain⟨j,q,b6⟩:=hj t Z
    obtain⟨f,aK,N⟩:=hf
    obtain⟨aA,b5⟩:=Xe8 b6
    simp only[Option.getD_some]at aR
    obtain rfl:t=⟨g,d,i⟩:=aR.out
    simp only at aA b5
    have c0:=hT.cell 0 Z
    have c1:=hT.cell 1 Z
    have c2:=hT.cell 2 Z
    have aI:=Lib.hid N
    have bC:=Lib.hid aA
    have bD:=Lib.hid aK
    clear N aA aK hj
    have aE:u++[⟨g,d,i⟩] <+: Bl s:=⟨_,by rw[aI.out];rfl⟩
    have HY:=Lib.hid hY
    have HJ:=Lib.hid hJ
    clear hY hJ
    gi_wp2
    gi_region_with_o (first
      |(gi_at_call 165
        go_must (
          refine(callsIn_wide.2 (XjT g d i _ bC.out O)).mono ?_;rintro e w2 ⟨rfl,A⟩
          have E:=hT.grown (w:=wr.drew) A (by simp)
          have bP:=E.cell 0 Z
          have bO:=E.cell 1 Z
          have bS:=E.cell 2 Z
          have b2:J u fp w2:=HJ.out.stable _ _ _ _ a8 A.size (λb G=>A.block b (HJ.out.lt _ _ _ a8 b G) (by simp))
          have HH:=Lib.hid (Xhl (HY.out u ⟨g,d,i⟩ w2 fp b2 aE))
          obtain⟨fn,bH,aZ,bL,hy,hR⟩:=HH.out
          simp only[XhQ,Tok.val]at hy))
      |(refine hR.mono ?_;rintro e p ⟨c,rfl,hc⟩))
    all_goals
      obtain⟨m,S,Q,a9⟩:=hc.out
      have aH:Scan w2 B s k o:=Blk.grown (w:=wr.drew) hS A (by simp)
      have aY:=Blk.grown (w:=wr.drew) hX A (by simp)
      have aS:Scan p B s k o:=Blk.frm aH S n2
      have a7:=Blk.frm aY S n3
      have aD:=Blk.frm E S n1
      have X:Frm (B::r) W w2:=aJ.drew.trans_new (Frm.of_grown A [] (by simp)) (by simp)
      have I:Frm (B::r) W p:=X.trans_new S (λx hx=>by rcases aO x hx with h|h;exact .inl (by simp[h]);exact .inr h)
      have bQ:=X.size
      have aT:∀b∈m,b∈r\/W.heap.size<=b:=λb G=>by
        rcases Q b G with h|h
        ·exact aO b h
        ·exact .inr O
      have bN:=aH.lt
      have b4:=aY.lt
      have bE:=E.lt
      have m1:T∉m:=λh=>by rcases Q _ h with h|h;exact n1 h;omega
      have m2:B∉m:=λh=>by rcases Q _ h with h|h;exact n2 h;omega
      have m3:R∉m:=λh=>by rcases Q _ h with h|h;exact n3 h;omega
      cases c with
      |false=>
       gi_wp2
       refine bodyPost_ret (results_none Z _ _ _) Z ?_
       exact⟨⟨_,Z⟩,I,m,.inr ⟨_,aE,by simpa using a9⟩⟩
      |true=>
       obtain⟨t4,k4,o4,aQ⟩:∃t k' o',JZ s (s.size+1) k o=(t,k',o'):=⟨_,_,_,Z⟩
       obtain⟨P,U,V,aL⟩:∃g d i,t4.getD Tok.none=⟨g,d,i⟩:=⟨_,_,_,Z⟩
       have v:=Lib.hid aQ
       have aX:=Lib.hid aL
       clear aQ aL
       have d0:=aD.cell 0 Z
       have d1:=aD.cell 1 Z
       have d2:=aD.cell 2 Z
       have bU:=a7.cell 0 Z
       have b9:=aS.alloc (.cells #[.int .u8 g,.string d,Ve i] 128)
       have b7:=Blk.new p #[.int .u8 g,.string d,Ve i] 128
       have bM:=aS.lt
       have bF:=a7.lt
       have D:p.heap.size≠B:=O
       have C:p.heap.size≠R:=O
       have L:W.heap.size<=p.heap.size:=I.size
       gi_wp2_with (gi_at_call 164;refine(callsIn_wide.2 (Xi3 B s k o _ b9 hs hk t4 k4 o4 v P U V aX)).mono ?_;rintro e w4 ⟨rfl,aU,M⟩;have y:=b7.grown M (by simp;omega);have e0:=y.cell 0 Z;have e1:=y.cell 1 Z;have e2:=y.cell 2 Z;have g0:=y.frozen 0;have g1:=y.frozen 1;have g2:=y.frozen 2)
       go_roundw
       case rel=>
         obtain⟨f',q1,q2,q3⟩:=BI v.out hk (bD.out Z)
         have bG:=M.size
         simp at bG
         have a2:=HJ.out.lt _ _ _ (show J (u++[⟨g,d,i⟩]) m p from by simpa using a9)
         have bB:p.heap.size∉m:=λh=>by have:=a2 _ h;omega
         refine⟨u++[⟨g,d,i⟩],m,k4,o4,p.heap.size,t4,P,U,V,Z,Z,aX,?_,?_⟩
         ·exact((y.set 0 _).set 1 _).set 2 _
         ·have a6:Scan (((w4.setCell ⟨p.heap.size,0,none⟩ (.int .u8 P)).setCell ⟨p.heap.size,1,none⟩ (.string U)).setCell ⟨p.heap.size,2,none⟩ (Ve V)) B s k4 o4:=by
            (repeat(first|with_reducible exact aU|with_reducible refine Scan.drew ?_|with_reducible refine Scan.drewN ?_ _|with_reducible refine Scan.alloc ?_ _|refine Scan.other ?_ _ D.symm _|refine Scan.at (k:=k) ?_ _|refine Scan.at' ?_))
          refine⟨a6,?_,?_,?_,aT,bB,m2,m3,D,O,O,?_,⟨f',q2,?_⟩,?_⟩
          ·cases t4 with
           |none=>exact(Nq v.out hk).1
           |some t=>exact(MI v.out hk).1
          ·exact Blk.setOther (Blk.setOther (Blk.setOther ((a7.alloc _).grown M (by simp[aG.symm])) _ C.symm _) _ C.symm _) _ C.symm _
          ·refine HJ.out.stable _ _ _ _ (by simpa using a9) (by simp;omega) λb G=>?_
           have a4:=a2 b G
           have aC:b≠p.heap.size:=O
           rw[Below.heap_setCell _ _ _ _ aC,Below.heap_setCell _ _ _ _ aC,Below.heap_setCell _ _ _ _ aC];rw[M.block b (by simp;omega) (by rintro h;cases h;exact m2 G),Below.heap_alloc _ _ _ a4]
          ·refine Frm.setCell (Frm.setCell (Frm.setCell ?_ (.inr L) _) (.inr L) _) (.inr L) _
           exact(I.alloc _).trans_new (Frm.of_grown M [B] (by simp)) (by simp)
          ·rw[aI.out];simp;exact q1
          ·rintro t rfl;exact⟨_,_,v.out⟩
       case measure=>
         have a6:Scan (((w4.setCell ⟨p.heap.size,0,none⟩ (.int .u8 P)).setCell ⟨p.heap.size,1,none⟩ (.string U)).setCell ⟨p.heap.size,2,none⟩ (Ve V)) B s k4 o4:=by
             (repeat(first|with_reducible exact aU|with_reducible refine Scan.drew ?_|with_reducible refine Scan.drewN ?_ _|with_reducible refine Scan.alloc ?_ _|refine Scan.other ?_ _ D.symm _|refine Scan.at (k:=k) ?_ _|refine Scan.at' ?_))
         rw[XeK a6,XeK hS]
         cases t4 with
         |none=>have:=(Nq v.out hk).2;simp[Ba];omega
         |some t=>have:=(MI v.out hk).2;simp[Ba];omega
end
section
open Go.RowKit Go.Shelf
attribute [local go_sem] Oper.semAt_some Xhq BD BC Ml
def cellsOf(b:List Tok):List Value:=b.flatMap Tok.cells
def UO:List Tok->Option Tok
 | []=>none
 |t::r=>if UR t=0 then UO r else some t
def Jf(s:ByteArray):Option (Nat×Int):=if 16384<s.size then some (0,3)else(UO (Bl s)).map λt=>(t.pos,UR t)
def XaY(s:ByteArray)(w:World)(e:Ending)(w':World):Prop:=
 Below w.heap.size w w' /\
  ((∃p f,Jf s=some (p,f)/\e=.returned (.tuple #[.slice none 0 0,.int .i64 (p:Nat),.int .i64 f])) \/
   (Jf s=none/\∃b,e=.returned (.tuple #[b,.int .i64 0,.int .i64 0])/\w'.ownsRow w.heap.size 128 3 b (Bl s).length (cellsOf (Bl s))/\(b=.slice none 0 0↔Bl s=[])))
theorem Xf3(b:Nat)(w:World):Calls prog 92 #[Vc b 0] w λe w'=>
 e=.returned (.func (.func 163) #[] #[Vc w.heap.size 0])/\w.alloc (.cells #[Vc b 0] 269)=w':=by
 go_enter func92,ntmps92
 go_wp2
 go_returns
 exact⟨Z,Z⟩
theorem Xl8(s:ByteArray)(w:World)(b:16384<s.size)(hs:s.size<=maxLen):Calls prog 50 #[.string s] w (XaY s w):=by
 unfold maxLen at hs
 have c:Hid (Jf s=some (0,3)):=Lib.hid (by unfold Jf;rw[if_pos b])
 go_enter func50,ntmps50
 go_wp2
 go_returns
 exact⟨by go_grown,.inl ⟨0,3,c.out,Z⟩⟩
def Xsk(R:Nat)(b:List Tok)(fp:List Nat)(W:World):Prop:=
 ∃c,fp=R::(R+1)::(R+1+1)::c.ownBlock.toList/\Blk W R [c] 123/\Blk W (R+1) [.int .i64 0] 3/\Blk W (R+1+1) [.int .i64 0] 34 /\
  W.ownsRow (R+1+1+1+1+1) 128 3 c b.length (cellsOf b)/\(c=.slice none 0 0↔b=[])/\UO b=none/\R+1+1+1+1+1<=W.heap.size
def Xnd(R:Nat)(c:Code)(b:List Tok)(fp:List Nat)(W:World):Prop:=
 c=.ret/\fp=[R,R+1,R+1+1]/\∃t,UO b=some t/\Blk W R [.slice none 0 0] 123/\Blk W (R+1) [.int .i64 t.pos] 3/\Blk W (R+1+1) [.int .i64 (UR t)] 34
theorem Blk.agree{c:List Value}{t:TypeId}(h:Blk w b c t)(d:w'.heap[b]?=w.heap[b]?):Blk w' b c t:=d.trans h
theorem LE(R:Nat):Local (Xsk R):=by
 refine⟨?_,?_⟩
 ·rintro e fp W r ⟨m,rfl,j,i,d,g,n,o,q⟩ p c
  exact⟨m,Z,j.agree (c _ (by simp)),i.agree (c _ (by simp)),d.agree (c _ (by simp)),ME g (λb hb=>c b (by simp only[Ap];exact .inr (.inr (.inr hb)))),n,o,AW q p⟩
 ·rintro e fp W ⟨m,rfl,j,i,d,g,n⟩ b hb
  simp only[Ap]at hb
  rcases hb with rfl|rfl|rfl|hb
  ·exact j.lt
  ·exact i.lt
  ·exact d.lt
  ·exact(g.lt b (by simpa using hb)).2
theorem XdL(R:Nat)(c:Code):Local (Xnd R c):=by
 refine⟨?_,?_⟩
 ·rintro g fp W p ⟨n,rfl,t,o,j,i,e⟩ _ d
  exact⟨n,Z,t,o,j.agree (d _ (by simp)),i.agree (d _ (by simp)),e.agree (d _ (by simp))⟩
 ·rintro g fp W ⟨n,rfl,t,o,j,i,e⟩ b m
  simp only[Ap,IE,or_false]at m
  rcases m with rfl|rfl|rfl
  ·exact j.lt
  ·exact i.lt
  ·exact e.lt
theorem MR{b:List Tok}{t:Tok}(h:UO b=none):UO (b++[t])=if UR t=0 then none else some t:=by
 induction b with
 |nil=>simp[UO]
 |cons a r d=>
  rw[UO]at h
  split at h
  ·rename_i c;rw[Au,UO,if_pos c];exact d h
  ·cases h
theorem DJ{b c:List Tok}{t:Tok}(h:UO b=some t)(e:b <+: c):UO c=some t:=by
 obtain⟨q,rfl⟩:=e
 induction b with
 |nil=>simp[UO]at h
 |cons a r g=>
  rw[Au];rw[UO]at h⊢
  split at h
  ·rename_i d;rw[if_pos d];exact g h
  ·rename_i d;rw[if_neg d];exact h
theorem Xk3(s:ByteArray):(Bl s).length<=2*s.size+1:=Xa8 _ _ _ _
theorem Bt(w:World)(a b c:Value)(t:TypeId):∀j u,[a,b,c][j]?=some u->(w.alloc (.cells #[a,b,c] t)).cell? ((⟨w.heap.size,0,none⟩:Addr).add j)=some u:=by
 intro j u d
 match j,d with
 |0,d=>simp at d;subst d;simp[Addr.add]
 |1,d=>simp at d;subst d;simp[Addr.add]
 |2,d=>simp at d;subst d;simp[Addr.add]
 |j+3,d=>simp at d
theorem Xk4:((prog).info? 128).map (λi=>(i.zero,i.size,i.bytes))=some (some (.agg #[.int .u8 0,.string ⟨#[]⟩,Ve 0]),3,32):=by kernel_rfl
theorem Xcu(b:List Tok)(t:Tok):cellsOf (b++[t])=cellsOf b++[.int .u8 t.kind,.string t.text,Ve t.pos]:=by
 simp[cellsOf,Tok.cells]
theorem Xjq{R:Nat}{d:List Tok}{t:Tok}{j v:World}{o:Value}{a:Act}{n g:Nat}{X:Obj}(hb:UO (d++[t])=none)(B:W.heap.size<=j.heap.size)(u:R+1+1+1+1+1<=j.heap.size)(z:Blk j R [o] 123)(s:Blk j (R+1) [Ve 0] 3)(r:Blk j (R+1+1) [Ve 0] 34)(q:j.ownsRow (R+1+1+1+1+1) 128 3 o d.length (cellsOf d))(i:v.ownsRow (R+1+1+1+1+1) 128 3 (Vd n 0 (d.length+1) g) (d.length+1) (cellsOf d++[.int .u8 t.kind,.string t.text,Ve t.pos]))(c:(j.alloc X).grownBy v o.ownBlock)(p:o.ownBlock=some n\/n=(j.alloc X).heap.size):
 XjL (Xsk R) (Xnd R) (d++[t]) (R::(R+1)::(R+1+1)::o.ownBlock.toList) W j Exit.normal a (v.setCell ⟨R,0,none⟩ (Vd n 0 (d.length+1) g)):=by
 have m:=q.lt
 have y:=(i.lt n Z).1
 refine⟨?_,R::(R+1)::(R+1+1)::[n],?_,Vd n 0 (d.length+1) g,Z,?_,?_,?_,?_,by simp,hb,?_⟩
 rotate_right
 ·have:=c.size;simp at this⊢;omega
 ·refine Frm.setCell ?_ (.inl (by simp)) _
  exact((Frm.refl _ _).alloc X).trans_new (Frm.of_grown c (R::(R+1)::(R+1+1)::o.ownBlock.toList) (λk A=>by simp[A])) (λx w=>.inl w)
 ·intro b hb
  simp only[Ap,IE,or_false]at hb⊢
  rcases hb with h|h|h|h
  ·exact .inl (.inl h)
  ·exact .inl (.inr (.inl h))
  ·exact .inl (.inr (.inr (.inl h)))
  ·rcases p with h1|h1
   ·exact .inl (.inr (.inr (.inr (by simp[h1,h]))))
   ·exact .inr (by simp at h1;omega)
 ·exact Blk.set1 ((z.alloc X).grown c (λe=>by have:=m _ e.symm;omega)) _
 ·exact Blk.setOther ((s.alloc X).grown c (λe=>by have:=m _ e.symm;omega)) _ (by simp) _
 ·exact Blk.setOther ((r.alloc X).grown c (λe=>by have:=m _ e.symm;omega)) _ (by simp;omega) _
 ·rw[Xcu,AK,FQ]
  exact ownsRow_setCell_below i (by simp;omega) _
theorem XbA{d b:Nat}{e:TypeId}{c:Nat}{v:Value}{o:List Value}(h:w.ownsRow d e c v n o)(hb:b<=d):w.ownsRow b e c v n o:=by
 obtain⟨q,j⟩:=h
 refine⟨q,?_⟩
 rcases j with j|⟨g,m,i,p,s,r⟩
 ·exact .inl j
 ·exact .inr ⟨g,m,i,p,O,r⟩
theorem XbS{g:World}{a b c d e:Obj}(_:Frm ([w.heap.size+1+1+1]++[w.heap.size,w.heap.size+1,w.heap.size+1+1]) (((((w.alloc a).alloc b).alloc c).alloc d).alloc e) W)(h:Frm ([w.heap.size+1+1+1]++[w.heap.size,w.heap.size+1,w.heap.size+1+1]) (((((w.alloc a).alloc b).alloc c).alloc d).alloc e) g):Below w.heap.size w g:=by
 refine Below.trans (b:=((((w.alloc a).alloc b).alloc c).alloc d).alloc e) (by go_grown) (h.below (by simp;omega) ?_)
 intro x i
 simp only[Au,FI,Ap,IE,or_false]at i
 omega
theorem XgF{R:Nat}{d:List Tok}{t:Tok}{c:World}{sv:Value}{a:Act}(hb:UO (d++[t])=some t)(i:Blk c R [sv] 123)(e:Blk c (R+1) [Ve 0] 3)(g:Blk c (R+1+1) [Ve 0] 34):
 XjL (Xsk R) (Xnd R) (d++[t]) (R::(R+1)::(R+1+1)::sv.ownBlock.toList) W c Exit.ret a
  (((c.setCell ⟨R,0,none⟩ (.slice none 0 0)).setCell ⟨R+1,0,none⟩ (Ve t.pos)).setCell ⟨R+1+1,0,none⟩ (Ve (UR t))).drew:=by
 refine⟨?_,[R,R+1,R+1+1],λb hb=>.inl ?_,Z,Z,t,hb,?_,?_,?_⟩
 ·(repeat(first|with_reducible exact Frm.refl _ _|with_reducible refine Frm.drew ?_|with_reducible refine Frm.drewN ?_ _|with_reducible refine Frm.alloc ?_ _|with_reducible refine Frm.setCell ?_ (.inl (by simp)) _))
 ·simp only[Ap,IE,or_false]at hb⊢
  rcases hb with h|h|h
  ·exact .inl h
  ·exact .inr (.inl h)
  ·exact .inr (.inr (.inl h))
 ·(repeat(first|with_reducible exact i|with_reducible refine Blk.drew ?_|with_reducible refine Blk.drewN ?_ _|with_reducible refine Blk.alloc ?_ _|with_reducible refine Blk.set1 (x:=sv) ?_ _|with_reducible refine Blk.setOther ?_ _ (by first|(simp;done)|(simp;omega)) _))
 ·(repeat(first|with_reducible exact e|with_reducible refine Blk.drew ?_|with_reducible refine Blk.drewN ?_ _|with_reducible refine Blk.alloc ?_ _|with_reducible refine Blk.set1 (x:=Ve 0) ?_ _|with_reducible refine Blk.setOther ?_ _ (by(simp;done)) _))
 ·(repeat(first|with_reducible exact g|with_reducible refine Blk.drew ?_|with_reducible refine Blk.drewN ?_ _|with_reducible refine Blk.alloc ?_ _|with_reducible refine Blk.set1 (x:=Ve 0) ?_ _|with_reducible refine Blk.setOther ?_ _ (by first|(simp;done)|(simp;omega)) _))
set_option maxRecDepth 100000 in
theorem XrP(n:Nat)(s:ByteArray)(w:World)(hs:s.size<=16384):CallsIn Fence.wide n prog 50 #[.string s] w (XaY s w):=by
 have hd:decide (16384<(s.size:Int))=false:=by simp;omega
 have aL:(prog).follows .mixedOrders=true:=by kernel_rfl
 refine callsIn_of_wp_marks func50 Z trivial ?_ Z
 simp only[ntmps50,Fr,AY,Fw,Nat.reduceAdd,Nat.reduceSub,Array.replicate_succ,Array.replicate_zero,List.push_toArray,List.append_toArray,FI,Au]
 gi_wp2_with (gi_at_call 92;refine(callsIn_wide.2 (Xf3 _ _)).mono ?_;rintro e w1 ⟨rfl,rfl⟩)
 refine Lj (α:=Tok) (all:=Bl s) (own:=[w.heap.size+1+1+1,w.heap.size+1+1+1+1]) (wr:=[w.heap.size+1+1+1]) Z (enters_of func163 Y Z) (Xc0 _ _ _ s hs _ ?c1 ?c2 (by simp)) (λ_=>rfl)
  (Xsk w.heap.size) (Xnd w.heap.size) (LE _) (XdL _) [w.heap.size,w.heap.size+1,w.heap.size+1+1] ?start ?own
  (λx W a₁ W₁=>a₁={tmps:=#[.string s,undef,Vc w.heap.size 0,.pointer (some ⟨w.heap.size+1,0,none⟩),.pointer (some ⟨w.heap.size+1+1,0,none⟩),.pointer (some ⟨w.heap.size+1+1+1,0,none⟩),Vc W.heap.size 0,
   Ve (UR x),.string s,Ve s.size,.bool false,.string s,.agg #[.string s,Ve 0],.agg #[.string s,Ve 0,.bool false],.func (.func 163) #[] #[.pointer (some ⟨w.heap.size+1+1+1+1,0,none⟩)],
   .agg #[.int .u8 x.kind,.string x.text,Ve x.pos],Ve (UR x),undef,undef,undef,undef,undef,undef,undef,undef,undef,undef],defers:=[]} /\
   W₁=W.alloc (.cells #[.int .u8 x.kind,.string x.text,Ve x.pos] 128)) ?assign ?hAx ?body ?done ?stop
 case c1=>exact(Blk.newAt (by simp)).alloc _
 case c2=>exact Blk.newAt (by simp)
 case start=>exact⟨.slice none 0 0,Z,((((Blk.newAt (by simp)).alloc _).alloc _).alloc _).alloc _,(((Blk.newAt (by simp)).alloc _).alloc _).alloc _,((Blk.newAt (by simp)).alloc _).alloc _,World.ownsRow_nil _ _ _ _,by simp,Z,by simp⟩
 case own=>simp;omega
 case hAx=>rintro x W a₁ W₁ ⟨_,rfl⟩;exact(Frm.refl _ _).alloc _
 case assign=>
  intro l x W K N
  obtain⟨I,B,J⟩:=x
  simp only[XhQ,Tok.val]
  have HK:=Lib.hid N
  clear N
  gi_wp2
  exact HK.out _ _ ⟨Z,Z⟩
 case body=>
  rintro l M ⟨I,B,J⟩ W W₁ W₂ a₁ fp P a7 ⟨rfl,rfl⟩ R hz aA aO
  simp only at *
  have hT:Blk W₂ W.heap.size [.int .u8 I,.string B,Ve J] 128:=(Blk.new W #[.int .u8 I,.string B,Ve J] _).frm R (by simp;omega)
  have aG:Xsk w.heap.size M fp W₂:=(LE _).stable _ _ W _ P (by have:=R.size;simp at this;omega) λb S=>by
   have a5:=(LE _).lt _ _ _ P b S
   exact(R.block b (by simp;omega) (by rintro hm;simp at hm;subst hm;exact aA S)).trans (Below.heap_alloc _ _ _ a5)
  obtain⟨sv,rfl,r,m,p,i,j,d,y⟩:=aG
  have q:=MR (t:=⟨I,B,J⟩) d
  have X:=a7.length_le
  have aE:=Xk3 s
  simp only[AK,AY,Fw]at X
  have aC:M.length<=40000:=O
  have aB:=i.lt
  have c0:=hT.cell 0 Z
  have c1:=hT.cell 1 Z
  have c2:=hT.cell 2 Z
  have r0:=r.cell 0 Z
  have r1:=m.cell 0 Z
  have r2:=p.cell 0 Z
  have f0:=r.frozen 0
  have f1:=m.frozen 0
  have f2:=p.frozen 0
  have aH:W.heap.size<=W₂.heap.size:=by have:=R.size;simp at this;omega
  have HI:=Lib.hid P
  have Hl:=Lib.hid R
  have Hz:=Lib.hid hz
  clear P R hz
  by_cases Q:UR ⟨I,B,J⟩=0
  ·rw[Q]
   rw[if_pos Q]at q
   obtain⟨i0,hi,aI,aD,a8⟩:=info_parts Xk4
   have Hb:=Lib.hid q
   have Hn:=Lib.hid j
   have a1:=Lib.hid d
   clear Q q j d
   gi_wp2_with (gi_at_builtin;go_must (refine Mk _ Z _ _ 123 Z (w.heap.size+1+1+1+1+1) 128 i0 (.agg #[.int .u8 0,.string ⟨#[]⟩,Ve 0]) 3 32 underlying123 hi aI aD a8 Z (by decide) _ _ _ Z (i.alloc _) ⟨W₂.heap.size,0,none⟩ 1 1 [.int .u8 I,.string B,Ve J] Z Z (Bt _ _ _ _ _) (by simp[Value.oneCell']) (by unfold maxLen;omega) O (by simp;omega) (by decide) ?_;intro g' aK w1 L z V;have U:=(r.alloc (.cells #[.int .u8 I,.string B,Ve J] 128)).grown z (λe=>by have:=aB _ e.symm;omega);have T:=U.cell 0 Z;have e0:=U.frozen 0))
   exact Xjq (t:=⟨I,B,J⟩) Hb.out aH y r m p i L z V
  ·have aP:(UR ⟨I,B,J⟩!=0)=true:=by simpa using Q
   rw[if_neg Q]at q
   have Hb:=Lib.hid q
   have Hn:=Lib.hid j
   have a1:=Lib.hid d
   clear Q q j d
   gi_wp2
   gi_region_with_o (fail)
   all_goals
    gi_wp2
    exact XgF (sv:=sv) (by rw[Hb.out]) r m p
 case done=>
  intro D fp W P N u hD v
  obtain⟨sv,rfl,r,m,p,i,j,d,y⟩:=P
  simp only[Ap,not_or]at v
  obtain⟨T,d1,d2,d3⟩:=v
  have A:Jf s=none:=by unfold Jf;rw[if_neg O,d];rfl
  have a3:=Lib.hid u
  have Hn:=Lib.hid j
  have aJ:=Lib.hid A
  have aF:=Lib.hid d3
  have a2:=Lib.hid i
  have a6:∃a n c,sv=.slice a n c:=by
   rcases i.2 with⟨rfl,_⟩|⟨g,aM,aN,rfl,_⟩<;>exact⟨_,_,_,Z⟩
  obtain⟨G,C,E,rfl⟩:=a6
  have c0:=r.cell 0 Z
  have c1:=m.cell 0 Z
  have c2:=p.cell 0 Z
  have f0:=r.frozen 0
  have f1:=m.frozen 0
  have f2:=p.frozen 0
  clear j d A u d3 i
  gi_wp2
  have a9:(((W.setCell ⟨w.heap.size,0,none⟩ (.slice G C E)).setCell ⟨w.heap.size+1,0,none⟩ (Ve 0)).setCell ⟨w.heap.size+1+1,0,none⟩ (Ve 0)).heap[D]?=some (.deferred (some [])):=by
   rw[Below.heap_setCell _ _ _ _ d2,Below.heap_setCell _ _ _ _ d1,Below.heap_setCell _ _ _ _ T];exact N
  refine⟨by simp,.inl ⟨_,_,Z,run_takeDeferred a9,?_⟩⟩
  have e0:(((((W.setCell ⟨w.heap.size,0,none⟩ (.slice G C E)).setCell ⟨w.heap.size+1,0,none⟩ (Ve 0)).setCell ⟨w.heap.size+1+1,0,none⟩ (Ve 0)).putObj D (.deferred none)).cell? ⟨w.heap.size,0,none⟩=some (.slice G C E)):=
   Blk.cell (Blk.agree (w:=((W.setCell _ _).setCell _ _).setCell _ _) (show Blk _ _ [.slice G C E] 123 by(repeat(first|with_reducible exact r|with_reducible refine Blk.drew ?_|with_reducible refine Blk.drewN ?_ _|with_reducible refine Blk.alloc ?_ _|with_reducible refine Blk.set1 (x:=.slice G C E) ?_ _|with_reducible refine Blk.setOther ?_ _ (by first|(simp;done)|(simp;omega)) _))) (World.putObj_heap_other (Ne.symm T))) 0 Z
  have e1:(((((W.setCell ⟨w.heap.size,0,none⟩ (.slice G C E)).setCell ⟨w.heap.size+1,0,none⟩ (Ve 0)).setCell ⟨w.heap.size+1+1,0,none⟩ (Ve 0)).putObj D (.deferred none)).cell? ⟨w.heap.size+1,0,none⟩=some (Ve 0)):=
   Blk.cell (Blk.agree (w:=((W.setCell _ _).setCell _ _).setCell _ _) (show Blk _ _ [Ve 0] 3 by(repeat(first|with_reducible exact m|with_reducible refine Blk.drew ?_|with_reducible refine Blk.drewN ?_ _|with_reducible refine Blk.alloc ?_ _|with_reducible refine Blk.set1 (x:=Ve 0) ?_ _|with_reducible refine Blk.setOther ?_ _ (by(simp;done)) _))) (World.putObj_heap_other (Ne.symm d1))) 0 Z
  have e2:(((((W.setCell ⟨w.heap.size,0,none⟩ (.slice G C E)).setCell ⟨w.heap.size+1,0,none⟩ (Ve 0)).setCell ⟨w.heap.size+1+1,0,none⟩ (Ve 0)).putObj D (.deferred none)).cell? ⟨w.heap.size+1+1,0,none⟩=some (Ve 0)):=
   Blk.cell (Blk.agree (w:=((W.setCell _ _).setCell _ _).setCell _ _) (show Blk _ _ [Ve 0] 34 by(repeat(first|with_reducible exact p|with_reducible refine Blk.drew ?_|with_reducible refine Blk.drewN ?_ _|with_reducible refine Blk.alloc ?_ _|with_reducible refine Blk.set1 (x:=Ve 0) ?_ _|with_reducible refine Blk.setOther ?_ _ (by first|(simp;done)|(simp;omega)) _))) (World.putObj_heap_other (Ne.symm d2))) 0 Z
  refine⟨.tuple #[.slice G C E,Ve 0,Ve 0],by simp[results,results50,go_sem,e0,e1,e2],?_,.inr ⟨aJ.out,.slice G C E,Z,?_,Hn.out⟩⟩
  ·refine XbS (W:=W) a3.out ?_
   refine Frm.putObj ?_ (.inr hD) _
   exact(((a3.out.setCell (.inl (by simp)) _).setCell (.inl (by simp)) _).setCell (.inl (by simp)) _)
  ·refine ME (XbA a2.out O) λb S=>?_
   have h1:=a2.out.lt b (by simpa using S)
   have h2:b≠D:=λh=>aF.out (h▸S)
   rw[World.putObj_heap_other h2,Below.heap_setCell _ _ _ _ (by simp;omega),Below.heap_setCell _ _ _ _ (by simp;omega),Below.heap_setCell _ _ _ _ (by simp;omega)]
 case stop=>
  rintro D c M fp W a4 ⟨rfl,rfl,t,ht,r,m,p⟩ N u hD v
  simp only[Ap,IE,or_false,not_or]at v
  obtain⟨T,d1,d2⟩:=v
  have A:Jf s=some (t.pos,UR t):=by unfold Jf;rw[if_neg O,DJ ht a4];rfl
  gi_wp2
  refine⟨by simp,.inl ⟨_,_,Z,run_takeDeferred N,?_⟩⟩
  have e0:=Blk.cell (r.agree (World.putObj_heap_other (o:=.deferred none) (Ne.symm T))) 0 Z
  have e1:=Blk.cell (m.agree (World.putObj_heap_other (o:=.deferred none) (Ne.symm d1))) 0 Z
  have e2:=Blk.cell (p.agree (World.putObj_heap_other (o:=.deferred none) (Ne.symm d2))) 0 Z
  refine⟨.tuple #[.slice none 0 0,Ve t.pos,Ve (UR t)],by simp[results,results50,go_sem,e0,e1,e2],?_,.inl ⟨_,_,A,Z⟩⟩
  exact XbS (W:=W) u (u.putObj (.inr hD) _)
theorem Xpe(s:ByteArray)(w:World)(hs:s.size<=maxLen):Calls prog 50 #[.string s] w (XaY s w):=by
 by_cases b:16384<s.size
 ·exact Xl8 s w b hs
 ·exact(callsIn_wide (n:=9)).1 (XrP 9 s w O)
end
end Go.Proofs.YtajfpcgbnflceaaGreatDoor
