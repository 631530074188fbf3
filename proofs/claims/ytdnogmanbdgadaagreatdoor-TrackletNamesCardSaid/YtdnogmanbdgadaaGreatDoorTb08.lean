/-
  Lemmas and walks, texts joined: ORCheck, OAllW, OPrAll, OApp, TKFr.
-/
import Derived.Deep.RegionHeld3
import Derived.Deep.MidRow
import Derived.ProofKit
import Derived.Lib.Hide
import Derived.Laws.RangeAny
import Derived.LoopTactic
import Derived.Deep.QuietTactic
import Derived.BigQuiet
import Derived.WalkLawsBesides
import Derived.WalkSpells
import Derived.Lib.SmallJoins
import Derived.Lib.LaidTab
import Derived.Laws.Concat
import Derived.Lib.Join
import Derived.Lib.Repeat
import Derived.Lib.ItoaLen
import Derived.Sort.Grow
import Derived.Deep.OwnRows
import Derived.Laws.BitsAllLaws
import Derived.Laws.IdiomCopy
import Derived.StillTailTactics
import Derived.WalkKit
import Derived.Lib.BitFns
import Derived.Laws.Bits64b
import Derived.RegionTactic
import Derived.BigRegion
import Derived.Deep.DeepCutAuto
import Derived.Lib.AtoiErrMem
import Derived.IntWalk
import Derived.OwnWalk
import Derived.Test.YtdnogmanbdgadaaGreatDoorTb07
import Derived.Test.YtdnogmanbdgadaaGreatDoorTb04
import Derived.Test.YtdnogmanbdgadaaGreatDoorTb06
import Derived.Test.YtdnogmanbdgadaaGreatDoorTb01
import Derived.Test.YtdnogmanbdgadaaGreatDoorRows
import Derived.Test.YtdnogmanbdgadaaGreatDoorTb05
import Derived.Test.YtdnogmanbdgadaaGreatDoorTb02
import Derived.Test.YtdnogmanbdgadaaGreatDoorTb03
set_option linter.unusedSimpArgs false
set_option linter.unusedVariables false
set_option maxRecDepth 100000
set_option maxHeartbeats 40000000
namespace Go.Proofs.YtdnogmanbdgadaaGreatDoor
namespace Ow
open Go.RowKit Lw Go.Proofs.YtdnogmanbdgadaaGreatDoor.Ap Go.Proofs.YtdnogmanbdgadaaGreatDoor.Op Go.Proofs.YtdnogmanbdgadaaGreatDoor.Mp Go.Proofs.YtdnogmanbdgadaaGreatDoor.Mw

theorem rcheck_any (o:Ob) (w:World) (h0:-9223372036854775808≤o.t) (h1:o.t≤9223372036854775807) (b0:0≤o.band) (b1:o.band≤255) (n1:o.name.size≤maxLen) (n2:o.site.size≤maxLen) :
  Calls Tryz.prog 15 #[obsV o] w fun e w'=>e = .returned (.int .i64 (checkC o))∧Below w.heap.size w w':=by
 have K1:=Lib.hid (fun (a:preB o=true) (b:magP o.mag o.band)=>check_ok a b)
 have K2:=Lib.hid (fun (b:¬ magP o.mag o.band)=>check_m b)
 have K3:=Lib.hid (fun (b:preB o=false)=>check_p b)
 have PD:=Lib.hid (show preA o=decide (timeP o.t∧nameP o.name∧o.site.size=3∧wordP o.site.data.toList) from rfl)
 have PB:=Lib.hid (preB_of o)
 have X0:=OX.new w o
 obtain⟨nm,st,tt,ra,dec,sg,mg,bd⟩:=o
 simp only at h0 h1 b0 b1 n1 n2 K1 K2 PD PB
 generalize checkC ⟨nm,st,tt,ra,dec,sg,mg,bd⟩=cc at *
 generalize preB ⟨nm,st,tt,ra,dec,sg,mg,bd⟩=pb at *
 generalize preA ⟨nm,st,tt,ra,dec,sg,mg,bd⟩=pa at *
 have C1:=Lib.hid (fun w'=>rtime_any tt w' h0 h1)
 have C2:=Lib.hid (fun w'=>rname_any nm w' n1)
 have C3:=Lib.hid (fun w'=>rword_any st w' n2)
 have q0:=X0.row 0 _ rfl
 have q1:=X0.row 1 _ rfl
 have q2:=X0.row 2 _ rfl
 have q3:=X0.row 3 _ rfl
 have q4:=X0.row 4 _ rfl
 have q5:=X0.row 5 _ rfl
 have q6:=X0.row 6 _ rfl
 have q7:=X0.row 7 _ rfl
 simp only[Nat.zero_add] at q0 q1 q2 q3 q4 q5 q6 q7
 have XX:=Lib.hid X0
 have NB:=Lib.hid (show nameB nm=true↔nameP nm from decide_eq_true_iff)
 have WB:=Lib.hid (show wordB st.data.toList=true↔wordP st.data.toList from decide_eq_true_iff)
 clear X0 h0 h1 n1
 unfold maxLen at n2
 generalize nameB nm=nb at *
 generalize wordB st.data.toList=wb at *
 go_enter Tryz.func15,Tryz.ntmps15
 go_wp2_with fail
 refine(C1.out _).mono ?_
 rintro e w1 ⟨y,m,d,h,i,s,u,c,rfl,hc,hb⟩
 have bb:=below_then hb ((Below.refl _ w1).alloc (Nat.le_refl _) (.cells (dateC y m d h i s u).toArray 91))
 have X1:=XX.out.call bb
 have lt1:w.heap.size<w1.heap.size:=by have:=hb.size;simp at this;omega
 clear q0 q1 q2 q3 q4 q5 q6 q7
 have q0:=(XX.out.call hb).row 0 _ rfl
 have q1:=(XX.out.call hb).row 1 _ rfl
 have q2:=(XX.out.call hb).row 2 _ rfl
 have q3:=(XX.out.call hb).row 3 _ rfl
 have q4:=(XX.out.call hb).row 4 _ rfl
 have q5:=(XX.out.call hb).row 5 _ rfl
 have q6:=(XX.out.call hb).row 6 _ rfl
 have q7:=(XX.out.call hb).row 7 _ rfl
 simp only[Nat.zero_add] at q0 q1 q2 q3 q4 q5 q6 q7
 have XX1:=Lib.hid X1
 have HC:=Lib.hid hc
 clear hb bb X1 XX C1 hc
 go_upto_region 2 with(refine wpList_store_new rfl _ (.tmp 3) (.tmp 9) rfl _ _ rfl rfl info7 rfl ?_ ?_;simp[Value.oneCell'])
 go_cut [60] (fun q wx=>q = .bool (!pb)∧OX w w.heap.size ⟨nm,st,tt,ra,dec,sg,mg,bd⟩ wx)
 case first =>
  clear K1 K2 K3
  cases nb
  ·have P:=Lib.hid (PD.out.trans (decide_eq_false fun g=>by have:=NB.out.2 g.2.1;cases this))
   have P2:=Lib.hid (PB.out.trans (by rw[P.out];rfl:_=false))
   clear PD PB P
   go_wp2_with (first|(refine(C2.out _).mono ?_;rintro e w2 ⟨rfl,rfl⟩)|(refine wpList_store_new rfl _ (.tmp 3) (.tmp 9) rfl _ _ rfl rfl info7 rfl ?_ ?_;simp[Value.oneCell']))
   go_meet
   exact⟨by rw[P2.out];rfl,XX1.out⟩
  ·by_cases h3:st.size=3
   ·have k3:(st.size:Int)=3:=by omega
    cases wb
    ·have P:=Lib.hid (PD.out.trans (decide_eq_false fun g=>by have:=WB.out.2 g.2.2.2;cases this))
     have P2:=Lib.hid (PB.out.trans (by rw[P.out];rfl:_=false))
     clear PD PB P
     go_wp2_with (first|(refine(C2.out _).mono ?_;rintro e w2 ⟨rfl,rfl⟩)|(refine(C3.out _).mono ?_;rintro e w3 ⟨rfl,rfl⟩)|(refine wpList_store_new rfl _ (.tmp 3) (.tmp 9) rfl _ _ rfl rfl info7 rfl ?_ ?_;simp[Value.oneCell']))
     go_meet
     exact⟨by rw[P2.out];rfl,XX1.out⟩
    ·rcases HC.out with⟨ht,rfl⟩|⟨ht,rfl⟩
     ·have P:=Lib.hid (PD.out.trans (decide_eq_true ⟨ht,NB.out.1 (by first|rfl|trivial),h3,WB.out.1 (by first|rfl|trivial)⟩))
      have P1:=Lib.hid (PB.out.trans (by rw[P.out,Bool.true_and]:_=decide (rngP ra dec sg)))
      clear PD PB P ht HC
      rcases rng_cases ra dec sg with g|⟨g,g'⟩
      ·have P2:=Lib.hid (P1.out.trans (decide_eq_true g))
       obtain⟨r1,r2,r3,r4,r5,r6⟩:=g
       clear P1
       go_wp2_with (first|(refine(C2.out _).mono ?_;rintro e w2 ⟨rfl,rfl⟩)|(refine(C3.out _).mono ?_;rintro e w3 ⟨rfl,rfl⟩)|(refine wpList_store_new rfl _ (.tmp 3) (.tmp 9) rfl _ _ rfl rfl info7 rfl ?_ ?_;simp[Value.oneCell']))
       go_meet
       exact⟨by first|(rw[P2.out];rfl)|(rw[P2.out];congr 1;simp;omega),XX1.out⟩
      ·have P2:=Lib.hid (P1.out.trans (decide_eq_false g))
       clear P1 g
       rcases g' with r1|⟨r1,r2⟩|⟨r1,r2,r3⟩|⟨r1,r2,r3,r4⟩|⟨r1,r2,r3,r4,r5⟩|⟨r1,r2,r3,r4,r5,r6⟩
       all_goals
        go_wp2_with (first|(refine(C2.out _).mono ?_;rintro e w2 ⟨rfl,rfl⟩)|(refine(C3.out _).mono ?_;rintro e w3 ⟨rfl,rfl⟩)|(refine wpList_store_new rfl _ (.tmp 3) (.tmp 9) rfl _ _ rfl rfl info7 rfl ?_ ?_;simp[Value.oneCell']))
        go_meet
        exact⟨by first|(rw[P2.out];rfl)|(rw[P2.out];congr 1;simp;omega),XX1.out⟩
     ·have P:=Lib.hid (PD.out.trans (decide_eq_false fun g=>ht g.1))
      have P2:=Lib.hid (PB.out.trans (by rw[P.out];rfl:_=false))
      clear PD PB P ht HC
      go_wp2_with (first|(refine(C2.out _).mono ?_;rintro e w2 ⟨rfl,rfl⟩)|(refine(C3.out _).mono ?_;rintro e w3 ⟨rfl,rfl⟩)|(refine wpList_store_new rfl _ (.tmp 3) (.tmp 9) rfl _ _ rfl rfl info7 rfl ?_ ?_;simp[Value.oneCell']))
      go_meet
      exact⟨by rw[P2.out];rfl,XX1.out⟩
   ·have P:=Lib.hid (PD.out.trans (decide_eq_false fun g=>h3 g.2.2.1))
    have P2:=Lib.hid (PB.out.trans (by rw[P.out];rfl:_=false))
    have k3:¬ (st.size:Int)=3:=by omega
    clear PD PB P
    go_wp2_with (first|(refine(C2.out _).mono ?_;rintro e w2 ⟨rfl,rfl⟩)|(refine wpList_store_new rfl _ (.tmp 3) (.tmp 9) rfl _ _ rfl rfl info7 rfl ?_ ?_;simp[Value.oneCell']))
    go_meet
    exact⟨by rw[P2.out];rfl,XX1.out⟩
 case rest =>
  obtain⟨rfl,X4⟩:=hcut
  clear q0 q1 q2 q3 q4 q5 q6 q7
  have q0:=X4.row 0 _ rfl
  have q1:=X4.row 1 _ rfl
  have q2:=X4.row 2 _ rfl
  have q3:=X4.row 3 _ rfl
  have q4:=X4.row 4 _ rfl
  have q5:=X4.row 5 _ rfl
  have q6:=X4.row 6 _ rfl
  have q7:=X4.row 7 _ rfl
  simp only[Nat.zero_add] at q0 q1 q2 q3 q4 q5 q6 q7
  have XX4:=Lib.hid X4
  clear X4 XX1 HC PD PB C2 C3 NB WB lt1
  cases pb
  ·have E:=Lib.hid (K3.out rfl)
   clear K1 K2 K3
   go_wp2_with fail
   go_ret
   exact⟨by rw[E.out];rfl,XX4.out.below⟩
  ·have L1:=Lib.hid (fun w'=>rletter_any bd w')
   rcases mag_cases mg bd with⟨rfl,rfl,g⟩|⟨h9,rfl,h1,g⟩|⟨h9,rfl,h1,h2,g⟩|⟨h9,rfl,h1,h2,g⟩|⟨hb,h1,g⟩|⟨hb,h1,h2,h9,g⟩|⟨hb,rfl,g⟩|⟨hb,h1,h2,h9,g⟩
   ·have E:=Lib.hid (K1.out rfl g)
    clear K1 K2 K3 g
    go_wp2_with fail
    go_ret
    exact⟨by rw[E.out];rfl,XX4.out.below⟩
   ·have E:=Lib.hid (K2.out g)
    clear K1 K2 K3 g
    have hm2:(mg==9999)=false:=beq_eq_false_iff_ne.2 h9
    go_wp2_with fail
    go_ret
    exact⟨by rw[E.out];rfl,XX4.out.below⟩
   ·have E:=Lib.hid (K2.out g)
    clear K1 K2 K3 g
    have hm2:(mg==9999)=false:=beq_eq_false_iff_ne.2 h9
    go_wp2_with fail
    go_ret
    exact⟨by rw[E.out];rfl,XX4.out.below⟩
   ·have E:=Lib.hid (K1.out rfl g)
    have el:ltB 32=false:=by decide
    rw[el] at L1
    clear K1 K2 K3 g el
    have hm2:(mg==9999)=false:=beq_eq_false_iff_ne.2 h9
    go_wp2_with (refine(L1.out _).mono ?_;rintro e w5 ⟨rfl,rfl⟩)
    go_ret
    exact⟨by rw[E.out];rfl,XX4.out.below⟩
   ·have E:=Lib.hid (K2.out g)
    clear K1 K2 K3 g
    have h9:mg≠9999:=by omega
    have hb2:(bd==32)=false:=beq_eq_false_iff_ne.2 hb
    have hb3:(bd != 32)=true:=by simpa using hb
    have hm2:(mg==9999)=false:=beq_eq_false_iff_ne.2 h9
    go_wp2_with fail
    go_ret
    exact⟨by rw[E.out];rfl,XX4.out.below⟩
   ·have E:=Lib.hid (K2.out g)
    clear K1 K2 K3 g
    have hb2:(bd==32)=false:=beq_eq_false_iff_ne.2 hb
    have hb3:(bd != 32)=true:=by simpa using hb
    have hm2:(mg==9999)=false:=beq_eq_false_iff_ne.2 h9
    go_wp2_with fail
    go_ret
    exact⟨by rw[E.out];rfl,XX4.out.below⟩
   ·have E:=Lib.hid (K2.out g)
    clear K1 K2 K3 g
    have hb2:(bd==32)=false:=beq_eq_false_iff_ne.2 hb
    have hb3:(bd != 32)=true:=by simpa using hb
    go_wp2_with fail
    go_ret
    exact⟨by rw[E.out];rfl,XX4.out.below⟩
   ·rcases lt_cases bd with⟨hl,el⟩|⟨hl,el⟩
    ·have E:=Lib.hid (K1.out rfl (g.2 hl))
     rw[el] at L1
     clear K1 K2 K3 g hl el
     have hb2:(bd==32)=false:=beq_eq_false_iff_ne.2 hb
     have hb3:(bd != 32)=true:=by simpa using hb
     have hm2:(mg==9999)=false:=beq_eq_false_iff_ne.2 h9
     go_wp2_with (refine(L1.out _).mono ?_;rintro e w5 ⟨rfl,rfl⟩)
     go_ret
     exact⟨by rw[E.out];rfl,XX4.out.below⟩
    ·have E:=Lib.hid (K2.out (fun x=>hl (g.1 x)))
     rw[el] at L1
     clear K1 K2 K3 g hl el
     have hb2:(bd==32)=false:=beq_eq_false_iff_ne.2 hb
     have hb3:(bd != 32)=true:=by simpa using hb
     have hm2:(mg==9999)=false:=beq_eq_false_iff_ne.2 h9
     go_wp2_with (refine(L1.out _).mono ?_;rintro e w5 ⟨rfl,rfl⟩)
     go_ret
     exact⟨by rw[E.out];rfl,XX4.out.below⟩
end Ow
namespace Ow
open Go.RowKit Lw Go.Proofs.YtdnogmanbdgadaaGreatDoor.Ap Go.Proofs.YtdnogmanbdgadaaGreatDoor.Op Go.Proofs.YtdnogmanbdgadaaGreatDoor.Mp Go.Proofs.YtdnogmanbdgadaaGreatDoor.Mw Go.Proofs.YtdnogmanbdgadaaGreatDoor.At

def SlA (w:World) (x:Option Addr) (l:List Ob):Prop:=l = [] ∨ ∃ b off,x=some ⟨b,off,none⟩∧b<w.heap.size∧ObsAt w b off l
theorem SlA.below {w w':World} {x:Option Addr} {l:List Ob} (h:SlA w x l) (hb:Below w.heap.size w w'):SlA w' x l:=by
 rcases h with h|⟨b,off,h1,h2,h3⟩
 ·exact Or.inl h
 ·exact Or.inr ⟨b,off,h1,Nat.lt_of_lt_of_le h2 hb.size,h3.below hb h2⟩
theorem SlA.get {w:World} {x:Option Addr} {l:List Ob} (h:SlA w x l) {i:Nat} (hi:i<l.length):∃ b off,x=some ⟨b,off,none⟩∧b<w.heap.size∧ObsAt w b off l:=by
 rcases h with rfl|h
 ·simp at hi
 ·exact h
def OBs (l:List Ob):Prop:=∀ i (h:i<l.length),OB (l[i]'h)
end Ow
namespace Ow
open Go.RowKit Lw Go.Proofs.YtdnogmanbdgadaaGreatDoor.Ap Go.Proofs.YtdnogmanbdgadaaGreatDoor.Op Go.Proofs.YtdnogmanbdgadaaGreatDoor.Mp Go.Proofs.YtdnogmanbdgadaaGreatDoor.Mw Go.Proofs.YtdnogmanbdgadaaGreatDoor.At

theorem ownsRow_below {w w':World} {base:Nat} {e:TypeId} {size:Nat} {v:Value} {n:Nat} {xs:List Value} (h:w.ownsRow base e size v n xs) (hb:Below w.heap.size w w'):w'.ownsRow base e size v n xs:=by
 obtain⟨h1,h2⟩:=h
 refine⟨h1,?_⟩
 rcases h2 with h2|⟨g,cap,cur,hv,hg,hh,r⟩
 ·exact Or.inl h2
 ·refine Or.inr ⟨g,cap,cur,hv,hg,?_,r⟩
  have lt:g<w.heap.size:=by
   rcases Nat.lt_or_ge g w.heap.size with h|h
   ·exact h
   ·rw[Array.getElem?_eq_none h] at hh;cases hh
  rw[hb.block g lt];exact hh
end Ow
namespace Ow
open Go.RowKit Lw Go.Proofs.YtdnogmanbdgadaaGreatDoor.Ap Go.Proofs.YtdnogmanbdgadaaGreatDoor.Op Go.Proofs.YtdnogmanbdgadaaGreatDoor.Mp Go.Proofs.YtdnogmanbdgadaaGreatDoor.Mw Go.Proofs.YtdnogmanbdgadaaGreatDoor.At

theorem infoO:(Tryz.prog.info? 31).map (fun i=>(i.zero,i.size,i.bytes))=some (some (.agg #[.string .empty, .string .empty, .int .i64 0, .int .i64 0, .int .i64 0, .int .i64 0, .int .i64 0, .int .u8 0]),8,80):=by kernel_rfl
def flatO (l:List Ob):List Value:=l.flatMap obsC
theorem flatO_snoc (l:List Ob) (o:Ob):flatO (l ++ [o])=flatO l++obsC o:=by simp[flatO]
theorem flatO_get {l:List Ob} {i:Nat} (hi:i<l.length) {j:Nat} {v:Value} (h:(obsC l[i])[j]? = some v):(flatO l)[i*8+j]? = some v:=by
 have hj:j<8:=by
  have:=(List.getElem?_eq_some_iff.1 h).1
  exact this
 induction l generalizing i with
 | nil=>simp at hi
 | cons a l ih =>
  have e:flatO (a::l)=obsC a++flatO l:=rfl
  have la:(obsC a).length=8:=rfl
  match i,hi,h with
  | 0,_,h =>
   rw[e,Nat.zero_mul,Nat.zero_add,List.getElem?_append_left (by omega)]
   exact h
  | i+1,hi,h =>
   have hi':i<l.length:=by simpa using hi
   rw[e,List.getElem?_append_right (by omega),la,show (i+1)*8+j-8=i*8+j by omega]
   exact ih hi' (by simpa using h)
def OwnO (w:World) (B:Nat) (v:Value) (l:List Ob):Prop:=w.ownsRow B 31 8 v l.length (flatO l)∧B≤w.heap.size
theorem OwnO.nil (w:World) (B:Nat) (h:B≤w.heap.size):OwnO w B (.slice none 0 0) []:=⟨World.ownsRow_nil _ _ _ _,h⟩
theorem OwnO.below {w w':World} {B:Nat} {v:Value} {l:List Ob} (h:OwnO w B v l) (hb:Below w.heap.size w w'):OwnO w' B v l:=⟨ownsRow_below h.1 hb,Nat.le_trans h.2 hb.size⟩
theorem owns_form {w:World} {B:Nat} {t:TypeId} {v:Value} {l:List Ob} (h:w.ownsRow B t 8 v l.length (flatO l)):(l = []∧v = .slice none 0 0) ∨ ∃ g cap,v = .slice (some ⟨g,0,none⟩) l.length cap∧B≤g∧g<w.heap.size∧ObsAt w g 0 l:=by
 have hc:=fun (g:Nat) (hg:v.ownBlock=some g)=>h.cells hg
 rcases h.2 with⟨hv,hn⟩|⟨g,cap,cur,hv,hb,hh,r⟩
 ·exact Or.inl ⟨List.length_eq_zero_iff.1 hn,hv⟩
 ·have lt:g<w.heap.size:=by
   rcases Nat.lt_or_ge g w.heap.size with h|h
   ·exact h
   ·rw[Array.getElem?_eq_none h] at hh;cases hh
  refine Or.inr ⟨g,cap,hv,hb,lt,fun i hi j x hx=>?_⟩
  have e:=hc g (by rw[hv];rfl) (i*8+j) x (flatO_get hi hx)
  rw[Addr.add_mid] at e
  rw[Nat.zero_add] at e
  rw[Nat.zero_add]
  exact e
def SlV (w:World) (v:Value) (l:List Ob):Prop:=∃ x cap,v = .slice x l.length cap∧SlA w x l
theorem slV_of {w:World} {B:Nat} {t:TypeId} {v:Value} {l:List Ob} (h:w.ownsRow B t 8 v l.length (flatO l)):SlV w v l:=by
 rcases owns_form h with⟨rfl,rfl⟩|⟨g,cap,rfl,_,lt,hg⟩
 ·exact⟨none,0,rfl,Or.inl rfl⟩
 ·exact⟨_,cap,rfl,Or.inr ⟨g,0,rfl,lt,hg⟩⟩
theorem news_of {w:World} {b:Nat} {o:Ob} (h:w.rangeAt b 0 (obsC o)):∀ j u,(obsC o)[j]? = some u→w.cell? ((⟨b,0,none⟩:Addr).add j)=some u:=fun j u hj=>by
 rw[Addr.add_mid];exact h j u hj
theorem obsC_one (o:Ob):∀ u∈obsC o,u.oneCell'=true:=fun u hu=>by
 simp only[List.mem_cons,List.not_mem_nil,or_false] at hu
 rcases hu with rfl|rfl|rfl|rfl|rfl|rfl|rfl|rfl <;> rfl
theorem wp_app {ops:Array Oper} {rest:List Oper} {o:Oper} {a:Act} {Q:Exit→Act→World→Prop} (w:World) (hgd:o.guard=none) (s x:Operand)
  (ho:o.op = .call { callee:=.builtin .append,args:=#[s,x],argTypes:=#[22,22] })
  (B:Nat) (v:Value) (l:List Ob) (q:Ob) (hs:a.eval s=v) (hx:a.eval x = .slice (some ⟨w.heap.size,0,none⟩) 1 1) (hown:OwnO w B v l) (hl:l.length≤1000000)
  (h:∀ v' w',OwnO w' B v' (l ++ [q])→Below B w w'→wpList Tryz.prog ops Q rest (a.put o.dst v') w'):wpList Tryz.prog ops Q (o::rest) a (w.alloc (.cells (obsC q).toArray 31)):=by
 obtain⟨i0,hi,hz0,hz1,hz2⟩:=info_parts infoO
 have ho':=hown.1.alloc (.cells (obsC q).toArray 31)
 have nw:=news_of (rangeAt_new w (obsC q) 31)
 have b1:Below B w (w.alloc (.cells (obsC q).toArray 31)):=(Below.refl _ _).alloc hown.2 _
 refine wpList_append_own _ hgd s x 22 ho B 31 i0 _ 8 80 Tryz.underlying22 hi hz0 hz1 hz2 rfl (by decide) v l.length (flatO l) hs ho' ⟨w.heap.size,0,none⟩ 1 1 (obsC q) hx rfl nw (obsC_one q) (by unfold maxLen;omega) (by omega) (Nat.le_trans hown.2 b1.size) ?_
 intro v' w' h1 h2 _
 have e:=flatO_snoc l q
 have hb:Below B w w':=b1.trans ((Below.refl B _).grown h2 (Nat.le_trans hown.2 b1.size) (fun k hk=>(hown.1.lt k hk).1))
 refine h v' w' ⟨?_,Nat.le_trans hown.2 hb.size⟩ hb
 rw[e,List.length_append]
 exact h1
end Ow
namespace Tw
open Go.RowKit Lw

structure Fr (w0:World) (L:List (Nat×List Value)) (w:World):Prop where
 below:Below w0.heap.size w0 w
 lo:∀ p∈L,w0.heap.size≤p.1
 hi:∀ p∈L,p.1<w.heap.size
 nd:(L.map Prod.fst).Nodup
 row:∀ p∈L,w.rangeAt p.1 0 p.2
 th:∀ p∈L,w.there p.1 0 p.2.length
theorem Fr.start (w:World):Fr w [] w:=⟨Below.refl _ _,fun p h=>(by cases h),fun p h=>(by cases h),List.nodup_nil,fun p h=>(by cases h),fun p h=>(by cases h)⟩
theorem Fr.call {w0 w w':World} {L:List (Nat×List Value)} (h:Fr w0 L w) (hb:Below w.heap.size w w'):Fr w0 L w' :=
 ⟨below_then h.below hb,h.lo,fun p hp=>Nat.lt_of_lt_of_le (h.hi p hp) hb.size,h.nd,fun p hp=>rangeAt_below (h.row p hp) hb (h.hi p hp),fun p hp=>there_below (h.th p hp) hb (h.hi p hp)⟩
theorem Fr.alloc {w0 w:World} {L:List (Nat×List Value)} (h:Fr w0 L w) (vs:List Value) (t:TypeId):Fr w0 ((w.heap.size,vs)::L) (w.alloc (.cells vs.toArray t)):=by
 have hb:=(Below.refl w.heap.size w).alloc (Nat.le_refl _) (.cells vs.toArray t)
 have h':=h.call hb
 refine⟨h'.below,fun p hp=>?_,fun p hp=>?_,?_,fun p hp=>?_,fun p hp=>?_⟩
 ·rcases List.mem_cons.1 hp with rfl|hp
  ·exact h.below.size
  ·exact h.lo p hp
 ·rcases List.mem_cons.1 hp with rfl|hp
  ·simp
  ·exact h'.hi p hp
 ·rw[List.map_cons,List.nodup_cons]
  refine⟨fun hm=>?_,h.nd⟩
  obtain⟨p,hp,e⟩:=List.mem_map.1 hm
  have:=h.hi p hp
  simp only at e
  omega
 ·rcases List.mem_cons.1 hp with rfl|hp
  ·exact rangeAt_new w vs t
  ·exact h'.row p hp
 ·rcases List.mem_cons.1 hp with rfl|hp
  ·exact there_new w _ t _ (by simp)
  ·exact h'.th p hp
theorem Fr.get {w0 w:World} {L:List (Nat×List Value)} (h:Fr w0 L w) (k:Nat) {b:Nat} {vs:List Value} (hk:L[k]? = some (b,vs)):w.rangeAt b 0 vs:=h.row _ (List.mem_of_getElem? hk)
theorem Fr.there {w0 w:World} {L:List (Nat×List Value)} (h:Fr w0 L w) (k:Nat) {b:Nat} {vs:List Value} (hk:L[k]? = some (b,vs)):w.there b 0 vs.length:=h.th _ (List.mem_of_getElem? hk)
theorem Fr.cell {w0 w:World} {L:List (Nat×List Value)} (h:Fr w0 L w) (k j:Nat) {b:Nat} {vs:List Value} {v:Value} (hk:L[k]? = some (b,vs)) (hj:vs[j]? = some v):w.cell? ⟨b,j,none⟩=some v:=by
 have:=h.get k hk j v hj
 rwa [Nat.zero_add] at this
theorem Fr.free {w0 w:World} {L:List (Nat×List Value)} (h:Fr w0 L w) (k j:Nat) {b:Nat} {vs:List Value} (hk:L[k]? = some (b,vs)) (hj:j<vs.length):w.frozen? ⟨b,j,none⟩=false:=by
 have:=(h.there k hk j hj).2
 rwa [Nat.zero_add] at this
theorem Fr.fz {w0 w:World} {L:List (Nat×List Value)} (h:Fr w0 L w) (k j:Nat) {b:Nat} {vs:List Value} {v:Value} (hk:L[k]? = some (b,vs)) (hj:vs[j]? = some v):w.frozen? ⟨b,j,none⟩=false :=
 h.free k j hk (List.getElem?_eq_some_iff.1 hj).1
theorem Fr.least {w0 w:World} {L:List (Nat×List Value)} (h:Fr w0 L w) (k:Nat) {b:Nat} {vs:List Value} (hk:L[k]? = some (b,vs)):w0.heap.size≤b∧b<w.heap.size:=⟨h.lo _ (List.mem_of_getElem? hk),h.hi _ (List.mem_of_getElem? hk)⟩
theorem sizes (b:Nat):∀ (vs:List Value) (o:Nat) (w:World),(w.setCells b o vs).heap.size=w.heap.size
 | [],_,_=>rfl
 | v::r,o,w=>by rw[World.setCells,sizes b r (o+1)];simp
theorem Fr.set {w0 w:World} {L:List (Nat×List Value)} (h:Fr w0 L w) (k:Nat) {b:Nat} {vs:List Value} (hk:L[k]? = some (b,vs)) (o:Nat) (xs:List Value) (vs':List Value) (hl:vs'.length=vs.length) (ho:o+xs.length≤vs.length)
  (e1:∀ j,j<xs.length→vs'[o+j]? = xs[j]?) (e2:∀ j,j<o∨o+xs.length≤j→vs'[j]? = vs[j]?):Fr w0 (L.set k (b,vs')) (w.setCells b o xs):=by
 have hkl:k<L.length:=(List.getElem?_eq_some_iff.1 hk).1
 have hkv:L[k]=(b,vs):=(List.getElem?_eq_some_iff.1 hk).2
 have hb:=h.least k hk
 have mem:∀ p∈L.set k (b,vs'),p=(b,vs')∨(p∈L∧p.1≠b):=by
  intro p hp
  obtain⟨i,hi,rfl⟩:=List.getElem_of_mem hp
  rw[List.length_set] at hi
  by_cases e:k=i
  ·subst e;left;rw[List.getElem_set_self]
  ·right
   rw[List.getElem_set_ne e]
   refine⟨List.getElem_mem _,fun q=>?_⟩
   have n:=List.pairwise_iff_getElem.1 h.nd
   have nk:∀ a c (ha:a<L.length) (hc:c<L.length),a<c→L[a].1≠L[c].1:=fun a c ha hc hac=>by
    have:=n a c (by simpa using ha) (by simpa using hc) hac
    simpa using this
   rcases Nat.lt_or_ge k i with g|g
   ·exact nk k i hkl hi g (by rw[hkv];exact q.symm)
   ·exact nk i k hi hkl (by omega) (by rw[hkv];exact q)
 refine⟨below_setCells b hb.1 xs o w h.below,fun p hp=>?_,fun p hp=>?_,?_,fun p hp=>?_,fun p hp=>?_⟩
 ·rcases mem p hp with rfl|⟨hp, -⟩
  ·exact hb.1
  ·exact h.lo p hp
 ·rw[sizes]
  rcases mem p hp with rfl|⟨hp, -⟩
  ·exact hb.2
  ·exact h.hi p hp
 ·have:(L.set k (b,vs')).map Prod.fst=L.map Prod.fst:=by
   rw[List.map_set]
   have:(L.map Prod.fst)[k]? = some b:=by simp[hk]
   obtain⟨q1,q2⟩:=List.getElem?_eq_some_iff.1 this
   conv=>rhs;rw[← List.set_getElem_self q1]
   rw[q2]
  rw[this];exact h.nd
 ·rcases mem p hp with rfl|⟨hp,hne⟩
  ·intro j v hv
   have hj:j<vs.length:=by rw[← hl];exact(List.getElem?_eq_some_iff.1 hv).1
   rw[Nat.zero_add]
   have tr:=h.there k hk
   by_cases hin:o≤j∧j<o+xs.length
   ·obtain⟨i,rfl⟩:∃ i,j=o+i:=⟨j-o,by omega⟩
    have hi:i<xs.length:=by omega
    rw[World.cell?_setCells_in b xs o w (fun i hi=>by have:=(tr (o+i) (by omega)).1;rwa [Nat.zero_add] at this) i hi]
    have:=e1 i hi
    rw[hv,List.getElem?_eq_getElem hi] at this
    exact this.symm
   ·rw[World.cell?_setCells_out b xs o w ⟨b,j,none⟩ (fun _ _=>by show j<o∨o+xs.length≤j;omega)]
    have:=e2 j (by omega)
    rw[this] at hv
    have:=h.get k hk j v hv
    rwa [Nat.zero_add] at this
  ·exact World.rangeAt_setCells_apart (h.row p hp) b o xs (Or.inl hne)
 ·rcases mem p hp with rfl|⟨hp, -⟩
  ·rw[hl];exact World.there_setCells (h.there k hk) b o xs
  ·exact World.there_setCells (h.th p hp) b o xs
theorem Fr.put {w0 w:World} {L:List (Nat×List Value)} (h:Fr w0 L w) (k:Nat) {b:Nat} {vs:List Value} (hk:L[k]? = some (b,vs)) (xs:List Value) (hl:xs.length=vs.length):Fr w0 (L.set k (b,xs)) (w.setCells b 0 xs) :=
 h.set k hk 0 xs xs hl (by omega) (fun j _=>by rw[Nat.zero_add]) (fun j hj=>by rw[List.getElem?_eq_none (by omega),List.getElem?_eq_none (by omega)])
theorem Fr.put1 {w0 w:World} {L:List (Nat×List Value)} (h:Fr w0 L w) (k:Nat) {b:Nat} {vs:List Value} (hk:L[k]? = some (b,vs)) (o:Nat) (x:Value) (ho:o<vs.length):Fr w0 (L.set k (b,vs.set o x)) (w.setCell ⟨b,o,none⟩ x) :=
 h.set k hk o [x] (vs.set o x) (by simp) (by show o+1≤_;omega) (fun j hj=>by
  have:j=0:=by simpa using hj
  subst this
  simp[ho]) (fun j hj=>List.getElem?_set_ne (by rcases hj with h|h <;> (try simp at h) <;> omega))
theorem Fr.drewN {w0 w:World} {L:List (Nat×List Value)} (h:Fr w0 L w) (n:Nat):Fr w0 L (w.drewN n) :=
 ⟨drewN_below2 h.below n,h.lo,fun p hp=>by simpa using h.hi p hp,h.nd,fun p hp j v hv=>by simpa using h.row p hp j v hv,fun p hp=>there_drewN (h.th p hp) n⟩
theorem Fr.drew {w0 w:World} {L:List (Nat×List Value)} (h:Fr w0 L w):Fr w0 L w.drew:=h.drewN 1
def Fr2 (w0:World) (L:List (Nat×List Value)) (W w:World):Prop:=Fr w0 L w∧Below W.heap.size W w
theorem Fr.two {w0 w:World} {L:List (Nat×List Value)} (h:Fr w0 L w):Fr2 w0 L w w:=⟨h,Below.refl _ _⟩
theorem Fr2.call {w0 W w w':World} {L:List (Nat×List Value)} (h:Fr2 w0 L W w) (hb:Below w.heap.size w w'):Fr2 w0 L W w':=⟨h.1.call hb,below_then h.2 hb⟩
theorem Fr2.drew {w0 W w:World} {L:List (Nat×List Value)} (h:Fr2 w0 L W w):Fr2 w0 L W w.drew:=⟨h.1.drew,h.2.drew⟩
theorem Fr.tail {w0 w:World} {p:Nat×List Value} {L:List (Nat×List Value)} (h:Fr w0 (p::L) w):Fr w0 L w :=
 ⟨h.below,fun q hq=>h.lo q (List.mem_cons_of_mem _ hq),fun q hq=>h.hi q (List.mem_cons_of_mem _ hq),(List.nodup_cons.1 (by have:=h.nd;rwa [List.map_cons] at this)).2,fun q hq=>h.row q (List.mem_cons_of_mem _ hq),fun q hq=>h.th q (List.mem_cons_of_mem _ hq)⟩
section
variable {w0 w : World} {L : List (Nat × List Value)}
theorem Fr.c2 (h:Fr w0 L w) (k:Nat) {b:Nat} {v0 v1:Value} {r:List Value} (hk:L[k]? = some (b,v0::v1::r)):w.cell? ⟨b,0,none⟩=some v0∧w.cell? ⟨b,1,none⟩=some v1:=⟨h.cell k 0 hk rfl,h.cell k 1 hk rfl⟩
theorem Fr.f2 (h:Fr w0 L w) (k:Nat) {b:Nat} {v0 v1:Value} {r:List Value} (hk:L[k]? = some (b,v0::v1::r)):w.frozen? ⟨b,0,none⟩=false∧w.frozen? ⟨b,1,none⟩=false:=⟨h.fz k 0 hk rfl,h.fz k 1 hk rfl⟩
theorem Fr.c3 (h:Fr w0 L w) (k:Nat) {b:Nat} {v0 v1 v2:Value} {r:List Value} (hk:L[k]? = some (b,v0::v1::v2::r)):w.cell? ⟨b,0,none⟩=some v0∧w.cell? ⟨b,1,none⟩=some v1∧w.cell? ⟨b,2,none⟩=some v2:=⟨h.cell k 0 hk rfl,h.cell k 1 hk rfl,h.cell k 2 hk rfl⟩
theorem Fr.f3 (h:Fr w0 L w) (k:Nat) {b:Nat} {v0 v1 v2:Value} {r:List Value} (hk:L[k]? = some (b,v0::v1::v2::r)):w.frozen? ⟨b,0,none⟩=false∧w.frozen? ⟨b,1,none⟩=false∧w.frozen? ⟨b,2,none⟩=false:=⟨h.fz k 0 hk rfl,h.fz k 1 hk rfl,h.fz k 2 hk rfl⟩
theorem Fr.c4 (h:Fr w0 L w) (k:Nat) {b:Nat} {v0 v1 v2 v3:Value} {r:List Value} (hk:L[k]? = some (b,v0::v1::v2::v3::r)):w.cell? ⟨b,0,none⟩=some v0∧w.cell? ⟨b,1,none⟩=some v1∧w.cell? ⟨b,2,none⟩=some v2∧w.cell? ⟨b,3,none⟩=some v3:=⟨h.cell k 0 hk rfl,h.cell k 1 hk rfl,h.cell k 2 hk rfl,h.cell k 3 hk rfl⟩
theorem Fr.f4 (h:Fr w0 L w) (k:Nat) {b:Nat} {v0 v1 v2 v3:Value} {r:List Value} (hk:L[k]? = some (b,v0::v1::v2::v3::r)):w.frozen? ⟨b,0,none⟩=false∧w.frozen? ⟨b,1,none⟩=false∧w.frozen? ⟨b,2,none⟩=false∧w.frozen? ⟨b,3,none⟩=false:=⟨h.fz k 0 hk rfl,h.fz k 1 hk rfl,h.fz k 2 hk rfl,h.fz k 3 hk rfl⟩
theorem Fr.c5 (h:Fr w0 L w) (k:Nat) {b:Nat} {v0 v1 v2 v3 v4:Value} {r:List Value} (hk:L[k]? = some (b,v0::v1::v2::v3::v4::r)):w.cell? ⟨b,0,none⟩=some v0∧w.cell? ⟨b,1,none⟩=some v1∧w.cell? ⟨b,2,none⟩=some v2∧w.cell? ⟨b,3,none⟩=some v3∧w.cell? ⟨b,4,none⟩=some v4:=⟨h.cell k 0 hk rfl,h.cell k 1 hk rfl,h.cell k 2 hk rfl,h.cell k 3 hk rfl,h.cell k 4 hk rfl⟩
theorem Fr.f5 (h:Fr w0 L w) (k:Nat) {b:Nat} {v0 v1 v2 v3 v4:Value} {r:List Value} (hk:L[k]? = some (b,v0::v1::v2::v3::v4::r)):w.frozen? ⟨b,0,none⟩=false∧w.frozen? ⟨b,1,none⟩=false∧w.frozen? ⟨b,2,none⟩=false∧w.frozen? ⟨b,3,none⟩=false∧w.frozen? ⟨b,4,none⟩=false:=⟨h.fz k 0 hk rfl,h.fz k 1 hk rfl,h.fz k 2 hk rfl,h.fz k 3 hk rfl,h.fz k 4 hk rfl⟩
theorem Fr.c6 (h:Fr w0 L w) (k:Nat) {b:Nat} {v0 v1 v2 v3 v4 v5:Value} {r:List Value} (hk:L[k]? = some (b,v0::v1::v2::v3::v4::v5::r)):w.cell? ⟨b,0,none⟩=some v0∧w.cell? ⟨b,1,none⟩=some v1∧w.cell? ⟨b,2,none⟩=some v2∧w.cell? ⟨b,3,none⟩=some v3∧w.cell? ⟨b,4,none⟩=some v4∧w.cell? ⟨b,5,none⟩=some v5:=⟨h.cell k 0 hk rfl,h.cell k 1 hk rfl,h.cell k 2 hk rfl,h.cell k 3 hk rfl,h.cell k 4 hk rfl,h.cell k 5 hk rfl⟩
theorem Fr.f6 (h:Fr w0 L w) (k:Nat) {b:Nat} {v0 v1 v2 v3 v4 v5:Value} {r:List Value} (hk:L[k]? = some (b,v0::v1::v2::v3::v4::v5::r)):w.frozen? ⟨b,0,none⟩=false∧w.frozen? ⟨b,1,none⟩=false∧w.frozen? ⟨b,2,none⟩=false∧w.frozen? ⟨b,3,none⟩=false∧w.frozen? ⟨b,4,none⟩=false∧w.frozen? ⟨b,5,none⟩=false:=⟨h.fz k 0 hk rfl,h.fz k 1 hk rfl,h.fz k 2 hk rfl,h.fz k 3 hk rfl,h.fz k 4 hk rfl,h.fz k 5 hk rfl⟩
theorem Fr.c7 (h:Fr w0 L w) (k:Nat) {b:Nat} {v0 v1 v2 v3 v4 v5 v6:Value} {r:List Value} (hk:L[k]? = some (b,v0::v1::v2::v3::v4::v5::v6::r)):w.cell? ⟨b,0,none⟩=some v0∧w.cell? ⟨b,1,none⟩=some v1∧w.cell? ⟨b,2,none⟩=some v2∧w.cell? ⟨b,3,none⟩=some v3∧w.cell? ⟨b,4,none⟩=some v4∧w.cell? ⟨b,5,none⟩=some v5∧w.cell? ⟨b,6,none⟩=some v6:=⟨h.cell k 0 hk rfl,h.cell k 1 hk rfl,h.cell k 2 hk rfl,h.cell k 3 hk rfl,h.cell k 4 hk rfl,h.cell k 5 hk rfl,h.cell k 6 hk rfl⟩
theorem Fr.f7 (h:Fr w0 L w) (k:Nat) {b:Nat} {v0 v1 v2 v3 v4 v5 v6:Value} {r:List Value} (hk:L[k]? = some (b,v0::v1::v2::v3::v4::v5::v6::r)):w.frozen? ⟨b,0,none⟩=false∧w.frozen? ⟨b,1,none⟩=false∧w.frozen? ⟨b,2,none⟩=false∧w.frozen? ⟨b,3,none⟩=false∧w.frozen? ⟨b,4,none⟩=false∧w.frozen? ⟨b,5,none⟩=false∧w.frozen? ⟨b,6,none⟩=false:=⟨h.fz k 0 hk rfl,h.fz k 1 hk rfl,h.fz k 2 hk rfl,h.fz k 3 hk rfl,h.fz k 4 hk rfl,h.fz k 5 hk rfl,h.fz k 6 hk rfl⟩
theorem Fr.c8 (h:Fr w0 L w) (k:Nat) {b:Nat} {v0 v1 v2 v3 v4 v5 v6 v7:Value} {r:List Value} (hk:L[k]? = some (b,v0::v1::v2::v3::v4::v5::v6::v7::r)):w.cell? ⟨b,0,none⟩=some v0∧w.cell? ⟨b,1,none⟩=some v1∧w.cell? ⟨b,2,none⟩=some v2∧w.cell? ⟨b,3,none⟩=some v3∧w.cell? ⟨b,4,none⟩=some v4∧w.cell? ⟨b,5,none⟩=some v5∧w.cell? ⟨b,6,none⟩=some v6∧w.cell? ⟨b,7,none⟩=some v7:=⟨h.cell k 0 hk rfl,h.cell k 1 hk rfl,h.cell k 2 hk rfl,h.cell k 3 hk rfl,h.cell k 4 hk rfl,h.cell k 5 hk rfl,h.cell k 6 hk rfl,h.cell k 7 hk rfl⟩
theorem Fr.f8 (h:Fr w0 L w) (k:Nat) {b:Nat} {v0 v1 v2 v3 v4 v5 v6 v7:Value} {r:List Value} (hk:L[k]? = some (b,v0::v1::v2::v3::v4::v5::v6::v7::r)):w.frozen? ⟨b,0,none⟩=false∧w.frozen? ⟨b,1,none⟩=false∧w.frozen? ⟨b,2,none⟩=false∧w.frozen? ⟨b,3,none⟩=false∧w.frozen? ⟨b,4,none⟩=false∧w.frozen? ⟨b,5,none⟩=false∧w.frozen? ⟨b,6,none⟩=false∧w.frozen? ⟨b,7,none⟩=false:=⟨h.fz k 0 hk rfl,h.fz k 1 hk rfl,h.fz k 2 hk rfl,h.fz k 3 hk rfl,h.fz k 4 hk rfl,h.fz k 5 hk rfl,h.fz k 6 hk rfl,h.fz k 7 hk rfl⟩
end
end Tw
end Go.Proofs.YtdnogmanbdgadaaGreatDoor
