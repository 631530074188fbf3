/-
  Lemmas and walks, texts joined: ONumb, OCheck, Pl, TTurn, OPrint, OAny, OGreat, OBox.
-/
import Derived.Deep.Cut
import Derived.WalkKit
import Derived.Deep.QuietTactic
import Derived.ProofKit
import Derived.Outline
import Derived.Lib.Hide
import Derived.BigQuiet
import Derived.WalkLawsBesides
import Derived.WalkSpells
import Derived.Laws.RangeAny
import Derived.LoopTactic
import Derived.Lib.SmallJoins
import Derived.Lib.LaidTab
import Derived.Laws.Concat
import Derived.Lib.Join
import Derived.Lib.Repeat
import Derived.Lib.ItoaLen
import Derived.Sort.Grow
import Derived.Deep.OwnRows
import Derived.Laws.BitsAllLaws
import Derived.Deep.RegionHeld3
import Derived.Laws.IdiomCopy
import Derived.StillTailTactics
import Derived.Lib.BitFns
import Derived.Laws.Bits64b
import Derived.Laws.DeepBits32
import Derived.RegionTactic
import Derived.BigRegion
import Derived.Test.YtdnogmanbdgadaaGreatDoorTb06
import Derived.Test.YtdnogmanbdgadaaGreatDoorTb04
import Derived.Test.YtdnogmanbdgadaaGreatDoorTb02
import Derived.Test.YtdnogmanbdgadaaGreatDoorTb03
import Derived.Test.YtdnogmanbdgadaaGreatDoorRows
import Derived.Test.YtdnogmanbdgadaaGreatDoorTb01
import Derived.Test.YtdnogmanbdgadaaGreatDoorTb05
set_option linter.unusedSimpArgs false
set_option linter.unusedVariables false
set_option maxRecDepth 100000
set_option maxHeartbeats 40000000
namespace Go.Proofs.YtdnogmanbdgadaaGreatDoor
namespace Ow
open Go.RowKit Lw Go.Proofs.YtdnogmanbdgadaaGreatDoor.Ap Go.Proofs.YtdnogmanbdgadaaGreatDoor.Op

def ES (w:World):Prop:=2<w.heap.size ∧ ∃ ev,w.cell? ⟨2,0,none⟩=some ev∧(ev = .nilIface ∨ ∃ te pe,ev = .iface te pe)
theorem ES.below {w w':World} (h:ES w) (hb:Below w.heap.size w w'):ES w':=by
 obtain⟨lt,ev,h1,h2⟩:=h
 exact⟨Nat.lt_of_lt_of_le lt hb.size,ev,(hb.cell (p:=⟨2,0,none⟩) lt).trans h1,h2⟩
theorem pu_step {M acc:Nat} {c:UInt8} {r:List UInt8} (h:48≤c.toNat∧c.toNat≤57) (ha:acc≤1000) (hM:65535≤M):Lib.parseUintM M acc (c::r)=Lib.parseUintM M (acc*10+(c.toNat-48)) r:=by
 rw[Lib.parseUintM,if_pos h,if_neg (by omega),if_neg (by omega)]
def noNum:Lib.NumEnd Nat:=Lib.parseUintB 16 []
theorem pu_stop {M acc:Nat} {c:UInt8} {r:List UInt8} (h:¬ (48≤c.toNat∧c.toNat≤57)):Lib.parseUintM M acc (c::r)=noNum:=by
 rw[Lib.parseUintM,if_neg h]
 rfl
theorem pu_cases {l:List UInt8} (h:l.length=4):(digsB l=true ∧ ∃ u,Lib.parseUintB 16 l = .ok u)∨(digsB l=false∧Lib.parseUintB 16 l=noNum):=by
 match l,h with
 | [a,b,c,d],_ =>
  unfold Lib.parseUintB
  rw[if_neg (by simp)]
  have nd:∀ x ∈ [a,b,c,d],¬ (48≤x.toNat∧x.toNat≤57)→digsB [a,b,c,d]=false:=fun x hx hn=>decide_eq_false fun g=>hn (by have:=g.2 x hx;omega)
  by_cases ha:48≤a.toNat∧a.toNat≤57
  ·rw[pu_step ha (by omega) (by omega)]
   by_cases hb:48≤b.toNat∧b.toNat≤57
   ·rw[pu_step hb (by omega) (by omega)]
    by_cases hc:48≤c.toNat∧c.toNat≤57
    ·rw[pu_step hc (by omega) (by omega)]
     by_cases hd:48≤d.toNat∧d.toNat≤57
     ·rw[pu_step hd (by omega) (by omega)]
      refine Or.inl ⟨decide_eq_true ⟨by simp,fun x hx=>?_⟩,_,rfl⟩
      simp only[List.mem_cons,List.not_mem_nil,or_false] at hx
      rcases hx with rfl|rfl|rfl|rfl <;> omega
     ·rw[pu_stop hd];exact Or.inr ⟨nd d (by simp) hd,rfl⟩
    ·rw[pu_stop hc];exact Or.inr ⟨nd c (by simp) hc,rfl⟩
   ·rw[pu_stop hb];exact Or.inr ⟨nd b (by simp) hb,rfl⟩
  ·rw[pu_stop ha];exact Or.inr ⟨nd a (by simp) ha,rfl⟩
theorem numb_of {s:ByteArray} (hs:s.size=5):numbB s=((decide (bt s 0=126) && wordB (s.extract 1 5).data.toList) || (wordB (s.extract 0 1).data.toList && digsB (s.extract 1 5).data.toList)):=by
 unfold numbB numbP wordB digsB
 simp only[hs,true_and,Bool.decide_or,Bool.decide_and]
theorem dig_word {l:List UInt8} (h:digsB l=true):wordB l=true:=by
 have:=of_decide_eq_true h
 exact decide_eq_true fun c hc=>Or.inl (this.2 c hc)
theorem pu_any (l:ByteArray) (w:World) (hE:ES w) (h:l.size=4) :
  Calls Tryz.prog 200 #[.string l, .int .i64 10, .int .i64 16] w fun e w'=>∃ u V,e = .returned (.tuple #[.int .u64 u,V])∧((digsB l.data.toList=true∧V = .nilIface)∨(digsB l.data.toList=false ∧ ∃ t p,V = .iface t (.pointer (some p))))∧Below w.heap.size w w':=by
 rcases pu_cases (l:=l.data.toList) (by simpa using h) with⟨d,u,hu⟩|⟨d,hu⟩
 ·refine(Tryz.strconv_ParseUint_10_at16_ok l (by omega) u hu w).mono ?_
  rintro e w' ⟨rfl,hw⟩
  refine⟨_,_,rfl,Or.inl ⟨d,rfl⟩,?_⟩
  rcases hw with rfl|rfl
  ·exact Below.refl _ _
  ·exact Lib.bytesWorld_below _ _ _
 ·obtain⟨lt,ev,h1,h2⟩:=hE
  refine(Tryz.strconv_ParseUint_10_at16_syntax l (by omega) hu ev w h1 h2).mono ?_
  rintro e w' ⟨N,rfl, -, -,hb⟩
  exact⟨_,_,rfl,Or.inr ⟨d,_,_,rfl⟩,hb⟩
theorem isNumb_any (s:ByteArray) (w:World) (hE:ES w) (hs:s.size≤maxLen) :
  Calls Tryz.prog 168 #[.string s] w fun e w'=>e = .returned (.bool (numbB s))∧Below w.heap.size w w':=by
 by_cases h5:s.size=5
 ·have N:=numb_of h5
  have z1:(s.extract 1 5).size=4:=by simp;omega
  have z0:(s.extract 0 1).size≤maxLen:=by simp;unfold maxLen;omega
  have PU:=Lib.hid (pu_any (s.extract 1 5) w hE z1)
  have W1:=Lib.hid (fun w'=>isWord_any (s.extract 1 5) w' (by unfold maxLen;omega))
  have W0:=Lib.hid (fun w'=>isWord_any (s.extract 0 1) w' z0)
  have DW:=Lib.hid (fun (h:digsB (s.extract 1 5).data.toList=true)=>dig_word h)
  obtain⟨c,hc⟩:∃ c:UInt8,s[0]'(by omega)=c:=⟨_,rfl⟩
  have b0:bt s 0=(c.toNat:Int):=by rw[bt_of s 0 (by omega),hc]
  rw[b0] at N
  have N:=Lib.hid N
  generalize wordB (s.extract 1 5).data.toList=q1 at *
  generalize wordB (s.extract 0 1).data.toList=q0 at *
  generalize digsB (s.extract 1 5).data.toList=dd at *
  have i0:0<s.size:=by omega
  clear z1 z0 hE hs b0
  go_enter Tryz.func168,Tryz.ntmps168
  go_wp2_with fail
  refine PU.out.mono ?_
  rintro e w1 ⟨u,V,rfl,hV,hb⟩
  have B1:=Lib.hid hb
  clear hb PU
  by_cases h126:(c.toNat:Int)=126
  ·have N2:=Lib.hid (N.out.trans (by rw[decide_eq_true h126];rfl:_=(q1 || (q0 && dd))))
   clear N
   cases q1
   ·have d0:dd=false:=by
     cases dd
     ·rfl
     ·exact absurd (DW.out rfl) (by simp)
    subst d0
    cases q0
    all_goals
     rcases hV with⟨hd,rfl⟩|⟨hd,t,p,rfl⟩
     ·cases hd
     go_wp2_with (first|((with_reducible refine(W1.out _).mono ?_);rintro e w2 ⟨rfl,hb2⟩)|((with_reducible refine(W0.out _).mono ?_);rintro e w3 ⟨rfl,hb3⟩))
     go_ret
     refine⟨?_,?_⟩
     ·rw[N2.out];rfl
     ·first|exact below_then (below_then B1.out hb2) hb3|exact below_then B1.out hb2
   ·clear hV
    go_wp2_with (first|((with_reducible refine(W1.out _).mono ?_);rintro e w2 ⟨rfl,hb2⟩)|((with_reducible refine(W0.out _).mono ?_);rintro e w3 ⟨rfl,hb3⟩))
    go_ret
    refine⟨?_,?_⟩
    ·rw[N2.out];rfl
    ·exact below_then B1.out hb2
  ·have N2:=Lib.hid (N.out.trans (by rw[decide_eq_false h126];rfl:_=(q0 && dd)))
   clear N
   cases q0
   ·clear hV
    go_wp2_with (first|((with_reducible refine(W1.out _).mono ?_);rintro e w2 ⟨rfl,hb2⟩)|((with_reducible refine(W0.out _).mono ?_);rintro e w3 ⟨rfl,hb3⟩))
    go_ret
    refine⟨?_,?_⟩
    ·rw[N2.out];rfl
    ·exact below_then B1.out hb3
   ·rcases hV with⟨rfl,rfl⟩|⟨rfl,t,p,rfl⟩
    ·obtain rfl:=DW.out rfl
     go_wp2_with fail
     refine(W0.out _).mono ?_
     rintro e w3 ⟨rfl,hb3⟩
     have B3:=Lib.hid (below_then B1.out hb3)
     clear hb3
     go_wp2_with fail
     refine(W1.out _).mono ?_
     rintro e w4 ⟨rfl,hb4⟩
     have B4:=Lib.hid (below_then B3.out hb4)
     clear hb4
     go_wp2_with fail
     go_ret
     exact⟨by rw[N2.out];rfl,B4.out⟩
    ·go_wp2_with fail
     refine(W0.out _).mono ?_
     rintro e w3 ⟨rfl,hb3⟩
     have B3:=Lib.hid (below_then B1.out hb3)
     clear hb3
     go_wp2_with fail
     go_ret
     exact⟨by rw[N2.out];rfl,B3.out⟩
 ·have N:=Lib.hid (show numbB s=false from decide_eq_false fun g=>h5 g.1)
  have h5':¬ (s.size:Int)=5:=by omega
  have h6:((s.size:Int)==5)=false:=by simpa using h5'
  have h7:((s.size:Int) != 5)=true:=by simpa using h5'
  go_enter Tryz.func168,Tryz.ntmps168
  go_wp2_with fail
  go_ret
  exact⟨by rw[N.out];rfl,Below.refl _ _⟩
theorem rnumb_any (s:ByteArray) (w:World) (hs:s.size≤maxLen) :
  Calls Tryz.prog 75 #[.string s] w fun e w'=>e = .returned (.bool (numbB s))∧w=w':=by
 by_cases h5:s.size=5
 ·have N:=numb_of h5
  have z1:(s.extract 1 5).size=4:=by simp;omega
  have z0:(s.extract 0 1).size≤maxLen:=by simp;unfold maxLen;omega
  have W1:=Lib.hid (fun w'=>rword_any (s.extract 1 5) w' (by unfold maxLen;omega))
  have W0:=Lib.hid (fun w'=>rword_any (s.extract 0 1) w' z0)
  have DG:=Lib.hid (fun w'=>rdigits_any (s.extract 1 5) w' (by unfold maxLen;omega))
  obtain⟨c,hc⟩:∃ c:UInt8,s[0]'(by omega)=c:=⟨_,rfl⟩
  have b0:bt s 0=(c.toNat:Int):=by rw[bt_of s 0 (by omega),hc]
  rw[b0] at N
  have N:=Lib.hid N
  generalize wordB (s.extract 1 5).data.toList=q1 at *
  generalize wordB (s.extract 0 1).data.toList=q0 at *
  generalize digsB (s.extract 1 5).data.toList=dd at *
  have i0:0<s.size:=by omega
  clear z1 z0 hs b0
  by_cases h126:(c.toNat:Int)=126
  ·have N2:=Lib.hid (N.out.trans (by rw[decide_eq_true h126];rfl:_=(q1 || (q0 && dd))))
   clear N
   cases q1 <;> cases q0 <;> cases dd
   all_goals
    go_enter Tryz.func75,Tryz.ntmps75
    go_wp2_with (first|((with_reducible refine(W1.out _).mono ?_);rintro e w2 ⟨rfl,rfl⟩)|((with_reducible refine(W0.out _).mono ?_);rintro e w3 ⟨rfl,rfl⟩)|((with_reducible refine(DG.out _).mono ?_);rintro e w4 ⟨rfl,rfl⟩))
    go_ret
    exact⟨by rw[N2.out];rfl,rfl⟩
  ·have N2:=Lib.hid (N.out.trans (by rw[decide_eq_false h126];rfl:_=(q0 && dd)))
   clear N
   cases q0 <;> cases dd
   all_goals
    go_enter Tryz.func75,Tryz.ntmps75
    go_wp2_with (first|((with_reducible refine(W0.out _).mono ?_);rintro e w3 ⟨rfl,rfl⟩)|((with_reducible refine(DG.out _).mono ?_);rintro e w4 ⟨rfl,rfl⟩))
    go_ret
    exact⟨by rw[N2.out];rfl,rfl⟩
 ·have N:=Lib.hid (show numbB s=false from decide_eq_false fun g=>h5 g.1)
  have h5':¬ (s.size:Int)=5:=by omega
  have h6:((s.size:Int)==5)=false:=by simpa using h5'
  have h7:((s.size:Int) != 5)=true:=by simpa using h5'
  go_enter Tryz.func75,Tryz.ntmps75
  go_wp2_with fail
  go_ret
  exact⟨by rw[N.out];rfl,rfl⟩
theorem name_cases (s:ByteArray):(numbB s=true∧nameB s=true)∨(numbB s=false∧((s.size<1∧nameB s=false)∨(1≤s.size∧7<s.size∧nameB s=false)∨(1≤s.size∧s.size≤7∧nameB s=wordB s.data.toList))):=by
 by_cases h:numbP s
 ·exact Or.inl ⟨decide_eq_true h,decide_eq_true (Or.inl h)⟩
 ·refine Or.inr ⟨decide_eq_false h,?_⟩
  by_cases a:s.size<1
  ·exact Or.inl ⟨a,decide_eq_false fun g=>g.elim h (fun x=>by omega)⟩
  ·by_cases b:7<s.size
   ·exact Or.inr (Or.inl ⟨by omega,b,decide_eq_false fun g=>g.elim h (fun x=>by omega)⟩)
   ·refine Or.inr (Or.inr ⟨by omega,by omega,decide_eq_decide.2 ⟨fun g=>g.elim (fun x=>absurd x h) (fun x=>x.2.2),fun g=>Or.inr ⟨by omega,by omega,g⟩⟩⟩)
theorem isName_any (s:ByteArray) (w:World) (hE:ES w) (hs:s.size≤maxLen) :
  Calls Tryz.prog 118 #[.string s] w fun e w'=>e = .returned (.bool (nameB s))∧Below w.heap.size w w':=by
 have C1:=Lib.hid (isNumb_any s w hE hs)
 have C2:=Lib.hid (fun w'=>isWord_any s w' hs)
 have NC:=name_cases s
 generalize nameB s=nb at *
 generalize numbB s=ub at *
 generalize wordB s.data.toList=wb at *
 clear hE
 unfold maxLen at hs
 rcases NC with⟨rfl,rfl⟩|⟨rfl,⟨h,rfl⟩|⟨h,g,rfl⟩|⟨h,g,rfl⟩⟩
 ·go_enter Tryz.func118,Tryz.ntmps118
  go_wp2_with fail
  refine C1.out.mono ?_
  rintro e w1 ⟨rfl,hb⟩
  go_wp2_with fail
  go_ret
  exact⟨rfl,hb⟩
 ·have h':(s.size:Int)<1:=by omega
  go_enter Tryz.func118,Tryz.ntmps118
  go_wp2_with fail
  refine C1.out.mono ?_
  rintro e w1 ⟨rfl,hb⟩
  go_wp2_with fail
  go_ret
  exact⟨rfl,hb⟩
 ·have h':(1:Int)≤s.size:=by omega
  have g':(7:Int)<s.size:=by omega
  go_enter Tryz.func118,Tryz.ntmps118
  go_wp2_with fail
  refine C1.out.mono ?_
  rintro e w1 ⟨rfl,hb⟩
  go_wp2_with fail
  go_ret
  exact⟨rfl,hb⟩
 ·have h':(1:Int)≤s.size:=by omega
  have g':(s.size:Int)≤7:=by omega
  go_enter Tryz.func118,Tryz.ntmps118
  go_wp2_with fail
  refine C1.out.mono ?_
  rintro e w1 ⟨rfl,hb⟩
  have B1:=Lib.hid hb
  clear hb
  go_wp2_with fail
  refine(C2.out _).mono ?_
  rintro e w2 ⟨rfl,hb⟩
  have B2:=Lib.hid (below_then B1.out hb)
  clear hb
  go_wp2_with fail
  go_ret
  exact⟨rfl,B2.out⟩
theorem rname_any (s:ByteArray) (w:World) (hs:s.size≤maxLen) :
  Calls Tryz.prog 42 #[.string s] w fun e w'=>e = .returned (.bool (nameB s))∧w=w':=by
 have C1:=Lib.hid (fun w'=>rnumb_any s w' hs)
 have C2:=Lib.hid (fun w'=>rword_any s w' hs)
 have NC:=name_cases s
 generalize nameB s=nb at *
 generalize numbB s=ub at *
 generalize wordB s.data.toList=wb at *
 unfold maxLen at hs
 rcases NC with⟨rfl,rfl⟩|⟨rfl,⟨h,rfl⟩|⟨h,g,rfl⟩|⟨h,g,rfl⟩⟩
 ·go_enter Tryz.func42,Tryz.ntmps42
  go_wp2_with (refine(C1.out _).mono ?_;rintro e w1 ⟨rfl,rfl⟩)
  go_ret
  exact⟨rfl,rfl⟩
 ·have h':(s.size:Int)<1:=by omega
  go_enter Tryz.func42,Tryz.ntmps42
  go_wp2_with (refine(C1.out _).mono ?_;rintro e w1 ⟨rfl,rfl⟩)
  go_ret
  exact⟨rfl,rfl⟩
 ·have h':(1:Int)≤s.size:=by omega
  have g':(7:Int)<s.size:=by omega
  go_enter Tryz.func42,Tryz.ntmps42
  go_wp2_with (refine(C1.out _).mono ?_;rintro e w1 ⟨rfl,rfl⟩)
  go_ret
  exact⟨rfl,rfl⟩
 ·have h':(1:Int)≤s.size:=by omega
  have g':(s.size:Int)≤7:=by omega
  go_enter Tryz.func42,Tryz.ntmps42
  go_wp2_with fail
  refine(C1.out _).mono ?_
  rintro e w1 ⟨rfl,rfl⟩
  go_wp2_with fail
  refine(C2.out _).mono ?_
  rintro e w2 ⟨rfl,rfl⟩
  go_wp2_with fail
  go_ret
  exact⟨rfl,rfl⟩
end Ow
namespace Ow
open Go.RowKit Lw Go.Proofs.YtdnogmanbdgadaaGreatDoor.Ap Go.Proofs.YtdnogmanbdgadaaGreatDoor.Op Go.Proofs.YtdnogmanbdgadaaGreatDoor.Mp Go.Proofs.YtdnogmanbdgadaaGreatDoor.Mw

def TimePost (t:Int) (w:World) (e:Ending) (w':World):Prop:=∃ y m d h i s u c:Int,e = .returned (.tuple #[dateV y m d h i s u, .int .i64 c])∧((timeP t∧c=0)∨(¬ timeP t∧c=16))∧Below w.heap.size w w'
theorem time_any (t:Int) (w:World) (h0:-9223372036854775808≤t) (h1:t≤9223372036854775807):Calls Tryz.prog 117 #[.int .i64 t] w (TimePost t w):=by
 by_cases h:t<bgv (-10227) 1972 1∨bgv 36525 2100 1≤t
 ·exact(toutc_out t w h0 h1 h).mono fun e w' ⟨he,hb⟩=>⟨0,0,0,0,0,0,0,16,he,Or.inr ⟨fun g=>by unfold timeP at g;omega,rfl⟩,hb⟩
 ·obtain⟨n,y,m,z,k,hd⟩:=day_ex t (by omega) (by omega)
  exact(toutc_in t n y m z k w hd (by omega) (by omega)).mono fun e w' ⟨he,hb⟩=>⟨_,_,_,_,_,_,_,_,he,Or.inl ⟨by unfold timeP;omega,rfl⟩,hb⟩
theorem rtime_any (t:Int) (w:World) (h0:-9223372036854775808≤t) (h1:t≤9223372036854775807):Calls Tryz.prog 41 #[.int .i64 t] w (TimePost t w):=by
 by_cases h:t<bgv (-10227) 1972 1∨bgv 36525 2100 1≤t
 ·exact(rtoutc_out t w h0 h1 h).mono fun e w' ⟨he,hb⟩=>⟨0,0,0,0,0,0,0,16,he,Or.inr ⟨fun g=>by unfold timeP at g;omega,rfl⟩,hb⟩
 ·obtain⟨n,y,m,z,k,hd⟩:=day_ex t (by omega) (by omega)
  exact(rtoutc_in t n y m z k w hd (by omega) (by omega)).mono fun e w' ⟨he,hb⟩=>⟨_,_,_,_,_,_,_,_,he,Or.inl ⟨by unfold timeP;omega,rfl⟩,hb⟩
structure OX (w0:World) (b:Nat) (o:Ob) (w:World):Prop where
 below:Below w0.heap.size w0 w
 lt:b<w.heap.size
 row:w.rangeAt b 0 (obsC o)
theorem OX.call {w0 w w':World} {b:Nat} {o:Ob} (h:OX w0 b o w) (hb:Below w.heap.size w w'):OX w0 b o w':=⟨below_then h.below hb,Nat.lt_of_lt_of_le h.lt hb.size,rangeAt_below h.row hb h.lt⟩
theorem OX.new (w:World) (o:Ob):OX w w.heap.size o (w.alloc (.cells (obsC o).toArray 31)):=⟨(Below.refl _ _).alloc (Nat.le_refl _) _,by simp,rangeAt_new w _ _⟩
def rngP (ra dec sg:Int):Prop:=0≤ra∧ra<1296000000000 ∧ -324000000000≤dec∧dec≤324000000000∧1≤sg∧sg≤10000000000
instance (ra dec sg:Int):Decidable (rngP ra dec sg):=by unfold rngP;infer_instance
theorem rng_cases (ra dec sg:Int):rngP ra dec sg∨(¬ rngP ra dec sg∧(ra<0∨(0≤ra∧1296000000000≤ra)∨(0≤ra∧ra<1296000000000∧dec < -324000000000)∨(0≤ra∧ra<1296000000000 ∧ -324000000000≤dec∧324000000000<dec)∨(0≤ra∧ra<1296000000000 ∧ -324000000000≤dec∧dec≤324000000000∧sg<1)∨(0≤ra∧ra<1296000000000 ∧ -324000000000≤dec∧dec≤324000000000∧1≤sg∧10000000000<sg))):=by
 unfold rngP;omega
theorem mag_cases (m b:Int):(m=9999∧b=32∧magP m b)∨(m≠9999∧b=32∧m < -500∧¬ magP m b)∨(m≠9999∧b=32 ∧ -500≤m∧3000<m∧¬ magP m b)∨(m≠9999∧b=32 ∧ -500≤m∧m≤3000∧magP m b) ∨
  (b≠32∧m < -500∧¬ magP m b)∨(b≠32 ∧ -500≤m∧3000<m∧m≠9999∧¬ magP m b)∨(b≠32∧m=9999∧¬ magP m b)∨(b≠32 ∧ -500≤m∧m≤3000∧m≠9999∧(magP m b↔ltP b)):=by
 by_cases hb:b=32
 ·by_cases h9:m=9999
  ·exact Or.inl ⟨h9,hb,Or.inl ⟨h9,hb⟩⟩
  ·by_cases h1:m < -500
   ·exact Or.inr (Or.inl ⟨h9,hb,h1,fun g=>by unfold magP at g;omega⟩)
   ·by_cases h2:3000<m
    ·exact Or.inr (Or.inr (Or.inl ⟨h9,hb,by omega,h2,fun g=>by unfold magP at g;omega⟩))
    ·exact Or.inr (Or.inr (Or.inr (Or.inl ⟨h9,hb,by omega,by omega,Or.inr ⟨by omega,by omega,Or.inl hb⟩⟩)))
 ·refine Or.inr (Or.inr (Or.inr (Or.inr ?_)))
  by_cases h1:m < -500
  ·exact Or.inl ⟨hb,h1,fun g=>by unfold magP at g;omega⟩
  ·by_cases h9:m=9999
   ·exact Or.inr (Or.inr (Or.inl ⟨hb,h9,fun g=>by unfold magP at g;omega⟩))
   ·by_cases h2:3000<m
    ·exact Or.inr (Or.inl ⟨hb,by omega,h2,h9,fun g=>by unfold magP at g;omega⟩)
    ·refine Or.inr (Or.inr (Or.inr ⟨hb,by omega,by omega,h9,fun g=>?_,fun g=>Or.inr ⟨by omega,by omega,Or.inr g⟩⟩))
     rcases g with⟨_,g⟩|⟨_,_,g|g⟩
     ·exact absurd g hb
     ·exact absurd g hb
     ·exact g
def preB (o:Ob):Bool:=decide (timeP o.t∧nameP o.name∧o.site.size=3∧wordP o.site.data.toList∧rngP o.ra o.dec o.sg)
def preA (o:Ob):Bool:=decide (timeP o.t∧nameP o.name∧o.site.size=3∧wordP o.site.data.toList)
theorem preB_of (o:Ob):preB o=(preA o && decide (rngP o.ra o.dec o.sg)):=by
 unfold preB preA
 rw[← Bool.decide_and]
 exact decide_eq_decide.2 ⟨fun ⟨a,b,c,d,e⟩=>⟨⟨a,b,c,d⟩,e⟩,fun ⟨⟨a,b,c,d⟩,e⟩=>⟨a,b,c,d,e⟩⟩
theorem okO_pre (o:Ob):okO o↔preB o=true∧magP o.mag o.band:=by
 unfold okO preB rngP
 rw[decide_eq_true_eq]
 constructor
 ·rintro ⟨a,b,c,d,e,f,g,h,i,j,k⟩;exact⟨⟨a,b,c,d,e,f,g,h,i,j⟩,k⟩
 ·rintro ⟨⟨a,b,c,d,e,f,g,h,i,j⟩,k⟩;exact⟨a,b,c,d,e,f,g,h,i,j,k⟩
theorem check_ok {o:Ob} (h:preB o=true) (g:magP o.mag o.band):checkC o=0:=if_pos ((okO_pre o).2 ⟨h,g⟩)
theorem check_m {o:Ob} (g:¬ magP o.mag o.band):checkC o=8:=if_neg fun x=>g ((okO_pre o).1 x).2
theorem check_p {o:Ob} (h:preB o=false):checkC o=8:=if_neg fun x=>by rw[((okO_pre o).1 x).1] at h;cases h
theorem check_any (o:Ob) (w:World) (hE:ES w) (h0:-9223372036854775808≤o.t) (h1:o.t≤9223372036854775807) (b0:0≤o.band) (b1:o.band≤255) (n1:o.name.size≤maxLen) (n2:o.site.size≤maxLen) :
  Calls Tryz.prog 77 #[obsV o] w fun e w'=>e = .returned (.int .i64 (checkC o))∧Below w.heap.size w w':=by
 have K1:=Lib.hid (fun (a:preB o=true) (b:magP o.mag o.band)=>check_ok a b)
 have K2:=Lib.hid (fun (b:¬ magP o.mag o.band)=>check_m b)
 have K3:=Lib.hid (fun (b:preB o=false)=>check_p b)
 have PD:=Lib.hid (show preA o=decide (timeP o.t∧nameP o.name∧o.site.size=3∧wordP o.site.data.toList) from rfl)
 have PB:=Lib.hid (preB_of o)
 have X0:=OX.new w o
 obtain⟨nm,st,tt,ra,dec,sg,mg,bd⟩:=o
 simp only at h0 h1 b0 b1 n1 n2 K1 K2 PD PB
 generalize checkC ⟨nm,st,tt,ra,dec,sg,mg,bd⟩=cc at *
 generalize preB ⟨nm,st,tt,ra,dec,sg,mg,bd⟩=pb at *
 generalize preA ⟨nm,st,tt,ra,dec,sg,mg,bd⟩=pa at *
 have C1:=Lib.hid (fun w'=>time_any tt w' h0 h1)
 have C2:=Lib.hid (fun w' (h:ES w')=>isName_any nm w' h n1)
 have C3:=Lib.hid (fun w'=>isWord_any st w' n2)
 have HE:=Lib.hid (hE.below X0.below)
 have q0:=X0.row 0 _ rfl
 have q1:=X0.row 1 _ rfl
 have q2:=X0.row 2 _ rfl
 have q3:=X0.row 3 _ rfl
 have q4:=X0.row 4 _ rfl
 have q5:=X0.row 5 _ rfl
 have q6:=X0.row 6 _ rfl
 have q7:=X0.row 7 _ rfl
 simp only[Nat.zero_add] at q0 q1 q2 q3 q4 q5 q6 q7
 have XX:=Lib.hid X0
 have NB:=Lib.hid (show nameB nm=true↔nameP nm from decide_eq_true_iff)
 have WB:=Lib.hid (show wordB st.data.toList=true↔wordP st.data.toList from decide_eq_true_iff)
 clear hE X0 h0 h1 n1
 unfold maxLen at n2
 generalize nameB nm=nb at *
 generalize wordB st.data.toList=wb at *
 go_enter Tryz.func77,Tryz.ntmps77
 go_wp2_with fail
 refine(C1.out _).mono ?_
 rintro e w1 ⟨y,m,d,h,i,s,u,c,rfl,hc,hb⟩
 have bb:=below_then hb ((Below.refl _ w1).alloc (Nat.le_refl _) (.cells (dateC y m d h i s u).toArray 91))
 have X1:=XX.out.call bb
 have lt1:w.heap.size<w1.heap.size:=by have:=hb.size;simp at this;omega
 have HE1:=Lib.hid (HE.out.below bb)
 clear q0 q1 q2 q3 q4 q5 q6 q7
 have q0:=(XX.out.call hb).row 0 _ rfl
 have q1:=(XX.out.call hb).row 1 _ rfl
 have q2:=(XX.out.call hb).row 2 _ rfl
 have q3:=(XX.out.call hb).row 3 _ rfl
 have q4:=(XX.out.call hb).row 4 _ rfl
 have q5:=(XX.out.call hb).row 5 _ rfl
 have q6:=(XX.out.call hb).row 6 _ rfl
 have q7:=(XX.out.call hb).row 7 _ rfl
 simp only[Nat.zero_add] at q0 q1 q2 q3 q4 q5 q6 q7
 have XX1:=Lib.hid X1
 have HC:=Lib.hid hc
 clear hb bb X1 XX HE C1 hc
 go_upto_region 2 with(refine wpList_store_new rfl _ (.tmp 3) (.tmp 12) rfl _ _ rfl rfl info7 rfl ?_ ?_;simp[Value.oneCell'])
 go_cut [5] (fun q wx=>q = .bool pa∧OX w w.heap.size ⟨nm,st,tt,ra,dec,sg,mg,bd⟩ wx)
 case first =>
  rcases HC.out with⟨ht,rfl⟩|⟨ht,rfl⟩
  ·have HT:=Lib.hid ht
   clear ht HC
   go_wp2_with (refine wpList_store_new rfl _ (.tmp 3) (.tmp 12) rfl _ _ rfl rfl info7 rfl ?_ ?_;simp[Value.oneCell'])
   refine(C2.out _ HE1.out).mono ?_
   rintro e w2 ⟨rfl,hb⟩
   have X2:=XX1.out.call hb
   clear q0 q1 q2 q3 q4 q5 q6 q7
   have q0:=X2.row 0 _ rfl
   have q1:=X2.row 1 _ rfl
   have q2:=X2.row 2 _ rfl
   have q3:=X2.row 3 _ rfl
   have q4:=X2.row 4 _ rfl
   have q5:=X2.row 5 _ rfl
   have q6:=X2.row 6 _ rfl
   have q7:=X2.row 7 _ rfl
   simp only[Nat.zero_add] at q0 q1 q2 q3 q4 q5 q6 q7
   have XX2:=Lib.hid X2
   clear hb X2 XX1 HE1 C2 lt1
   cases nb
   ·have P:=Lib.hid (PD.out.trans (decide_eq_false fun g=>by have:=NB.out.2 g.2.1;cases this))
    clear PD
    go_wp2_with fail
    go_meet
    exact⟨by rw[P.out],XX2.out⟩
   ·by_cases h3:st.size=3
    ·have k3:(st.size:Int)=3:=by omega
     go_wp2_with fail
     refine(C3.out _).mono ?_
     rintro e w3 ⟨rfl,hb⟩
     have X3:=XX2.out.call hb
     clear q0 q1 q2 q3 q4 q5 q6 q7
     have q0:=X3.row 0 _ rfl
     have q1:=X3.row 1 _ rfl
     have q2:=X3.row 2 _ rfl
     have q3:=X3.row 3 _ rfl
     have q4:=X3.row 4 _ rfl
     have q5:=X3.row 5 _ rfl
     have q6:=X3.row 6 _ rfl
     have q7:=X3.row 7 _ rfl
     simp only[Nat.zero_add] at q0 q1 q2 q3 q4 q5 q6 q7
     have XX3:=Lib.hid X3
     clear hb X3 XX2 C3
     cases wb
     ·have P:=Lib.hid (PD.out.trans (decide_eq_false fun g=>by have:=WB.out.2 g.2.2.2;cases this))
      clear PD
      go_wp2_with fail
      go_meet
      exact⟨by rw[P.out],XX3.out⟩
     ·have P:=Lib.hid (PD.out.trans (decide_eq_true ⟨HT.out,NB.out.1 (by first|rfl|trivial),h3,WB.out.1 (by first|rfl|trivial)⟩))
      clear PD h3 k3
      go_wp2_with fail
      go_meet
      exact⟨by rw[P.out],XX3.out⟩
    ·have P:=Lib.hid (PD.out.trans (decide_eq_false fun g=>h3 g.2.2.1))
     have k3:¬ (st.size:Int)=3:=by omega
     clear PD
     go_wp2_with fail
     go_meet
     exact⟨by rw[P.out],XX2.out⟩
  ·have P:=Lib.hid (PD.out.trans (decide_eq_false fun g=>ht g.1))
   clear PD HC ht
   go_wp2_with (refine wpList_store_new rfl _ (.tmp 3) (.tmp 12) rfl _ _ rfl rfl info7 rfl ?_ ?_;simp[Value.oneCell'])
   go_meet
   exact⟨by rw[P.out],XX1.out⟩
 case rest =>
  obtain⟨rfl,X4⟩:=hcut
  clear q0 q1 q2 q3 q4 q5 q6 q7
  have q0:=X4.row 0 _ rfl
  have q1:=X4.row 1 _ rfl
  have q2:=X4.row 2 _ rfl
  have q3:=X4.row 3 _ rfl
  have q4:=X4.row 4 _ rfl
  have q5:=X4.row 5 _ rfl
  have q6:=X4.row 6 _ rfl
  have q7:=X4.row 7 _ rfl
  simp only[Nat.zero_add] at q0 q1 q2 q3 q4 q5 q6 q7
  have XX4:=Lib.hid X4
  clear X4 XX1 HE1 HC PD C2 C3 NB WB lt1
  go_upto_region 3 with(fail)
  go_cut [5] (fun q wx=>q = .bool pb∧OX w w.heap.size ⟨nm,st,tt,ra,dec,sg,mg,bd⟩ wx)
  case first =>
   cases pa
   ·have P2:=Lib.hid PB.out
    clear PB
    go_wp2_with fail
    go_meet
    exact⟨by rw[P2.out];rfl,XX4.out⟩
   ·rcases rng_cases ra dec sg with g|⟨g,g'⟩
    ·have P2:=Lib.hid (PB.out.trans (by rw[decide_eq_true g];rfl:_=true))
     obtain⟨r1,r2,r3,r4,r5,r6⟩:=g
     clear PB
     go_wp2_with fail
     go_meet
     exact⟨by rw[P2.out],XX4.out⟩
    ·have P2:=Lib.hid (PB.out.trans (by rw[decide_eq_false g];rfl:_=false))
     clear PB g
     rcases g' with r1|⟨r1,r2⟩|⟨r1,r2,r3⟩|⟨r1,r2,r3,r4⟩|⟨r1,r2,r3,r4,r5⟩|⟨r1,r2,r3,r4,r5,r6⟩
     all_goals
      go_wp2_with fail
      go_meet
      first
       | exact⟨by rw[P2.out];congr 1;exact decide_eq_false (by omega),XX4.out⟩
       | exact⟨by rw[P2.out],XX4.out⟩
  case rest =>
   obtain⟨rfl,X4⟩:=hcut
   clear q0 q1 q2 q3 q4 q5 q6 q7
   have q0:=X4.row 0 _ rfl
   have q1:=X4.row 1 _ rfl
   have q2:=X4.row 2 _ rfl
   have q3:=X4.row 3 _ rfl
   have q4:=X4.row 4 _ rfl
   have q5:=X4.row 5 _ rfl
   have q6:=X4.row 6 _ rfl
   have q7:=X4.row 7 _ rfl
   simp only[Nat.zero_add] at q0 q1 q2 q3 q4 q5 q6 q7
   clear XX4
   have XX4:=Lib.hid X4
   clear X4 PB
   cases pb
   ·have E:=Lib.hid (K3.out rfl)
    clear K1 K2 K3
    rcases(show bd=32∨bd≠32 by omega) with hb|hb <;> rcases(show mg=9999∨mg≠9999 by omega) with hm|hm
    all_goals
     go_wp2_with fail
     go_ret
     exact⟨by rw[E.out];rfl,XX4.out.below⟩
   ·have L1:=Lib.hid (fun w'=>isLetter_any bd w')
    rcases mag_cases mg bd with⟨rfl,rfl,g⟩|⟨h9,rfl,h1,g⟩|⟨h9,rfl,h1,h2,g⟩|⟨h9,rfl,h1,h2,g⟩|⟨hb,h1,g⟩|⟨hb,h1,h2,h9,g⟩|⟨hb,rfl,g⟩|⟨hb,h1,h2,h9,g⟩
    ·have E:=Lib.hid (K1.out rfl g)
     clear K1 K2 K3 g
     go_wp2_with fail
     go_ret
     exact⟨by rw[E.out];rfl,XX4.out.below⟩
    ·have E:=Lib.hid (K2.out g)
     clear K1 K2 K3 g
     go_wp2_with fail
     go_ret
     exact⟨by rw[E.out];rfl,XX4.out.below⟩
    ·have E:=Lib.hid (K2.out g)
     clear K1 K2 K3 g
     go_wp2_with fail
     go_ret
     exact⟨by rw[E.out];rfl,XX4.out.below⟩
    ·have E:=Lib.hid (K1.out rfl g)
     clear K1 K2 K3 g
     go_wp2_with fail
     go_ret
     exact⟨by rw[E.out];rfl,XX4.out.below⟩
    ·have E:=Lib.hid (K2.out g)
     clear K1 K2 K3 g
     have h9:mg≠9999:=by omega
     have hb2:(bd==32)=false:=beq_eq_false_iff_ne.2 hb
     have hm2:(mg==9999)=false:=beq_eq_false_iff_ne.2 h9
     go_wp2_with fail
     go_ret
     exact⟨by rw[E.out];rfl,XX4.out.below⟩
    ·have E:=Lib.hid (K2.out g)
     clear K1 K2 K3 g
     have hb2:(bd==32)=false:=beq_eq_false_iff_ne.2 hb
     have hm2:(mg==9999)=false:=beq_eq_false_iff_ne.2 h9
     go_wp2_with fail
     go_ret
     exact⟨by rw[E.out];rfl,XX4.out.below⟩
    ·have E:=Lib.hid (K2.out g)
     clear K1 K2 K3 g
     have hb2:(bd==32)=false:=beq_eq_false_iff_ne.2 hb
     go_wp2_with fail
     go_ret
     exact⟨by rw[E.out];rfl,XX4.out.below⟩
    ·have hb2:(bd==32)=false:=beq_eq_false_iff_ne.2 hb
     have hm2:(mg==9999)=false:=beq_eq_false_iff_ne.2 h9
     rcases lt_cases bd with⟨hl,el⟩|⟨hl,el⟩
     ·have E:=Lib.hid (K1.out rfl (g.2 hl))
      rw[el] at L1
      clear K1 K2 K3 g hl el
      go_wp2_with (refine(L1.out _).mono ?_;rintro e w5 ⟨rfl,rfl⟩)
      go_ret
      exact⟨by rw[E.out];rfl,XX4.out.below⟩
     ·have E:=Lib.hid (K2.out (fun x=>hl (g.1 x)))
      rw[el] at L1
      clear K1 K2 K3 g hl el
      go_wp2_with (refine(L1.out _).mono ?_;rintro e w5 ⟨rfl,rfl⟩)
      go_ret
      exact⟨by rw[E.out];rfl,XX4.out.below⟩
end Ow
namespace Pl
open Go.RowKit

theorem ret_int {k:IntKind} {a b:Int} (h:a=b):Ending.returned (.int k a) = .returned (.int k b):=by rw[h]

theorem tmod_fix (a n:Int) (hn:0<n):(if a.tmod n<0 then a.tmod n+n else a.tmod n)=a % n:=by
 have h1:=Int.tmod_eq_emod (a:=a) (b:=n)
 have h2:=Int.emod_nonneg a (show n≠0 by omega)
 have h3:=Int.emod_lt_of_pos a hn
 by_cases h:0≤a∨n ∣ a
 ·rw[if_pos h] at h1
  rw[if_neg (by omega)];omega
 ·rw[if_neg h] at h1
  have:(n.natAbs:Int)=n:=by omega
  rw[if_pos (by omega)];omega

theorem tmod_bd (a n:Int) (hn:0<n):-n<a.tmod n∧a.tmod n<n:=⟨Int.lt_tmod_of_pos a hn,Int.tmod_lt_of_pos a hn⟩

def dif (a b:Int):Int:=if 1296000000000<2*((a-b) % 1296000000000) then(a-b) % 1296000000000-1296000000000 else(a-b) % 1296000000000
theorem dif_bd (a b:Int):-648000000000≤dif a b∧dif a b≤648000000000:=by unfold dif;split <;> omega
theorem sub_nrm (a b:Int):(a % 1296000000000-b % 1296000000000) % 1296000000000=(a-b) % 1296000000000:=by omega
end Pl
namespace Turns
open Go.RowKit

open Pl
theorem norm_any (a:Int) (w:World) (h0:-9223372036854775808≤a) (h1:a≤9223372036854775807) :
  Calls Tryz.prog 49 #[.int .i64 a] w fun e w'=>e = .returned (.int .i64 (a % 1296000000000))∧w=w':=by
 have hf:=Pl.tmod_fix a 1296000000000 (by omega)
 obtain⟨hb1,hb2⟩:=Pl.tmod_bd a 1296000000000 (by omega)
 by_cases hc:a.tmod 1296000000000<0
 ·rw[if_pos hc] at hf
  have Hf:=Lib.hid hf
  clear hf
  go_enter Tryz.func49,Tryz.ntmps49
  go_wp2
  go_ret
  exact⟨ret_int Hf.out,rfl⟩
 ·rw[if_neg hc] at hf
  have Hf:=Lib.hid hf
  clear hf
  go_enter Tryz.func49,Tryz.ntmps49
  go_wp2
  go_ret
  exact⟨ret_int Hf.out,rfl⟩

theorem rnorm_any (a:Int) (w:World) (h0:-9223372036854775808≤a) (h1:a≤9223372036854775807) :
  Calls Tryz.prog 16 #[.int .i64 a] w fun e w'=>e = .returned (.int .i64 (a % 1296000000000))∧w=w':=by
 have hf:=Pl.tmod_fix a 1296000000000 (by omega)
 obtain⟨hb1,hb2⟩:=Pl.tmod_bd a 1296000000000 (by omega)
 by_cases hc:a.tmod 1296000000000<0
 ·rw[if_pos hc] at hf
  have Hf:=Lib.hid hf
  clear hf
  go_enter Tryz.func16,Tryz.ntmps16
  go_wp2
  go_ret
  exact⟨ret_int Hf.out,rfl⟩
 ·rw[if_neg hc] at hf
  have Hf:=Lib.hid hf
  clear hf
  go_enter Tryz.func16,Tryz.ntmps16
  go_wp2
  go_ret
  exact⟨ret_int Hf.out,rfl⟩

theorem diff_any (a b:Int) (w:World) (h0:-9223372036854775808≤a) (h1:a≤9223372036854775807) (h2:-9223372036854775808≤b) (h3:b≤9223372036854775807) :
  Calls Tryz.prog 19 #[.int .i64 a, .int .i64 b] w fun e w'=>e = .returned (.int .i64 (dif a b))∧w=w':=by
 have g:=sub_nrm a b
 have Hg:=Lib.hid g
 clear g
 go_enter Tryz.func19,Tryz.ntmps19
 go_wp2_with (go_at_call 49;refine(norm_any _ _ (by omega) (by omega)).mono ?_;rintro e w' ⟨rfl,rfl⟩)
 all_goals
  go_ret
  refine⟨ret_int ?_,rfl⟩
  rw[Hg.out] at *
  unfold dif
  first|rw[if_pos (by omega)]|rw[if_neg (by omega)]

end Turns
namespace Ow
open Go.RowKit Lw Go.Proofs.YtdnogmanbdgadaaGreatDoor.Ap Go.Proofs.YtdnogmanbdgadaaGreatDoor.Op Go.Proofs.YtdnogmanbdgadaaGreatDoor.Mp Go.Proofs.YtdnogmanbdgadaaGreatDoor.Mw Go.Proofs.YtdnogmanbdgadaaGreatDoor.At

theorem info8:(Tryz.prog.info? 31).map (·.size)=some 8:=by kernel_rfl
end Ow
namespace Ow
open Go.RowKit Lw Go.Proofs.YtdnogmanbdgadaaGreatDoor.Ap Go.Proofs.YtdnogmanbdgadaaGreatDoor.Op Go.Proofs.YtdnogmanbdgadaaGreatDoor.Mp Go.Proofs.YtdnogmanbdgadaaGreatDoor.Mw Go.Proofs.YtdnogmanbdgadaaGreatDoor.At

structure OB (o:Ob):Prop where
 t0:-9223372036854775808≤o.t
 t1:o.t≤9223372036854775807
 b0:0≤o.band
 b1:o.band≤255
 n1:o.name.size≤maxLen
 n2:o.site.size≤maxLen
end Ow
namespace Ow
open Go.RowKit Lw Go.Proofs.YtdnogmanbdgadaaGreatDoor.Ap Go.Proofs.YtdnogmanbdgadaaGreatDoor.Op Go.Proofs.YtdnogmanbdgadaaGreatDoor.Mp Go.Proofs.YtdnogmanbdgadaaGreatDoor.Mw

def ObsAt (w:World) (b off:Nat) (l:List Ob):Prop:=∀ i (h:i<l.length),w.rangeAt b (off+i*8) (obsC (l[i]'h))
theorem ObsAt.below {w w':World} {b off:Nat} {l:List Ob} (h:ObsAt w b off l) (hb:Below w.heap.size w w') (lt:b<w.heap.size):ObsAt w' b off l:=fun i hi=>rangeAt_below (h i hi) hb lt
def longP (o:Ob):Prop:=100<o.name.size∨100<o.site.size
instance (o:Ob):Decidable (longP o):=by unfold longP;infer_instance
end Ow
namespace Ow
open Go.RowKit Lw Go.Proofs.YtdnogmanbdgadaaGreatDoor.Ap Go.Proofs.YtdnogmanbdgadaaGreatDoor.Op Go.Proofs.YtdnogmanbdgadaaGreatDoor.Mp Go.Proofs.YtdnogmanbdgadaaGreatDoor.Mw

structure Box (b:Nat) (o:Ob) (w:World):Prop where
 lt:b<w.heap.size
 row:w.rangeAt b 0 (obsC o)
 th:w.there b 0 8
theorem Box.new (w:World) (o:Ob):Box w.heap.size o (w.alloc (.cells (obsC o).toArray 31)):=⟨by simp,rangeAt_new w _ _,there_new w _ _ 8 (by show 8≤8;omega)⟩
end Ow
end Go.Proofs.YtdnogmanbdgadaaGreatDoor
