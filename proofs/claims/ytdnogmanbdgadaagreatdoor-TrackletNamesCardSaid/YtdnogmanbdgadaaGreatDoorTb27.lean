/-
  Lemmas and walks, texts joined: QReg, TLGv, QDot.
-/
import Derived.Deep.RegionHeld3
import Derived.Test.YtdnogmanbdgadaaGreatDoorTb26
import Derived.Test.YtdnogmanbdgadaaGreatDoorTb20
import Derived.Test.YtdnogmanbdgadaaGreatDoorTb06
import Derived.Test.YtdnogmanbdgadaaGreatDoorTb07
set_option linter.unusedSimpArgs false
set_option linter.unusedVariables false
set_option maxRecDepth 100000
set_option maxHeartbeats 40000000
namespace Go.Proofs.YtdnogmanbdgadaaGreatDoor
namespace Wd
open Go.RowKit Go

section
variable {P : Program} {ops : Array Oper} {Q : Exit → Act → World → Prop} {md : Region.Mode} {C : World → Prop} {st : Nat}
def TillSt (P:Program) (md:Region.Mode) (ops:Array Oper) (Q:Exit→Act→World→Prop) (C:World→Prop) (st:Nat):Nat→Array Bool→Act→World→Prop
 | 0,listed,a,w=>Region.ready md ops listed = []∧Q .normal a w
 | n+1,listed,a,w=>(Region.ready md ops listed = []→Q .normal a w) ∧
  ∀ j∈Region.ready md ops listed,wpOp P ops Q j (fun b v=>((listed.setIfInBounds j true).getD st true=false→C v)∧TillSt P md ops Q C st n (listed.setIfInBounds j true) b v) a w
theorem TillSt.any:∀ (n:Nat) (listed:Array Bool) (a:Act) (w:World),TillSt P md ops Q C st n listed a w→wpAny P md ops Q n listed a w
 | 0,_,_,_,h=>h
 | n+1,_,_,_,⟨h1,h2⟩=>⟨h1,fun j hj=>wpOp_mono (fun b v hb=>TillSt.any n _ b v hb.2) (h2 j hj)⟩
theorem TillSt.first {i:Nat} {oi:Oper} {v:Value} (hi:ops[i]? = some oi) (hn:Region.noSelect ops=true) (hQ:∀ c a w,Q (.panic c) (a.put oi.dst v) w→Q (.panic c) a w)
  (hw:∃ os,ops[st]? = some os ∧ ∃ e∈os.after,Region.binds md e=true∧e.on=i) (hne:i≠st) :
  ∀ (n:Nat) (listed:Array Bool) (a:Act) (w:World),(∀ j oj,ops[j]? = some oj→j≠i→listed.getD j true=false→(∀ e∈oj.after,Region.binds md e=true→e.on≠i)→oi.apart ops oj=true) →
   i∈Region.ready md ops listed→YieldsIf P ops C oi v a→C w→listed.getD st true=false →
   TillSt P md ops Q C st n (listed.setIfInBounds i true) (a.put oi.dst v) w→TillSt P md ops Q C st (n+1) listed a w:=by
 have sel:=Region.noSelect_spec hn
 intro n
 induction n with
 | zero =>
  intro listed a w _ hr hy hC _ H
  refine⟨fun e=>(by rw[e] at hr;cases hr),fun j hj=>?_⟩
  rcases Nat.decEq j i with h|h
  ·have:=ready_mono hj h
   rw[H.1] at this
   cases this
  ·subst h
   exact hy.wpOp hi hC ⟨fun _=>hC,H⟩
 | succ n ih =>
  intro listed a w free hr hy hC hs H
  refine⟨fun e=>(by rw[e] at hr;cases hr),fun j hj=>?_⟩
  rcases Nat.decEq j i with h|h
  ·obtain⟨ju,oj,ho,hall⟩:=mem_ready.1 hj
   have iu:=(mem_ready.1 hr).1
   have lt:i<listed.size:=by
    rcases Nat.lt_or_ge i listed.size with g|g
    ·exact g
    ·simp[Array.getElem?_eq_none g] at iu
   have un:∀ e∈oj.after,Region.binds md e=true→e.on≠i:=fun e he hb q=>by
    have h1:=hall e he hb
    rw[q] at h1
    simp[lt] at iu h1
    rw[iu] at h1
    cases h1
   have js:j≠st:=fun q=>by
    obtain⟨os,hos,e,he,hb,q2⟩:=hw
    subst q
    rw[hos] at ho
    cases ho
    exact un e he hb q2
   have s1:(listed.setIfInBounds j true).getD st true=false:=by rw[getD_set_ne true js];exact hs
   have s2:((listed.setIfInBounds i true).setIfInBounds j true).getD st true=false:=by rw[getD_set_ne true js,getD_set_ne true hne];exact hs
   have step:=wpOp_putIf ho (free j oj ho h ju un) (fun cs b=>sel i oi cs b hi) (fun cs b=>sel j oj cs b ho) hQ hy (H.2 j (ready_mono hj h))
   refine wpOp_mono (fun b u q=>⟨fun _=>q.2.1 s2,ih (listed.setIfInBounds j true) b u (fun k ok hk hki ku kn=>free k ok hk hki ?_ kn) (ready_mono hr (Ne.symm h)) q.1 (q.2.1 s2) s1 ?_⟩) step
   ·by_cases hjk:j=k
    ·subst hjk;exact ju
    ·rwa [getD_set_ne true hjk] at ku
   ·rw[Array.setIfInBounds_comm _ _ h]
    exact q.2.2
  ·subst h
   exact hy.wpOp hi hC ⟨fun _=>hC,H⟩
def waits (md:Region.Mode) (ops:Array Oper) (st i:Nat):Bool:=match ops[st]? with|some os=>os.after.any fun e=>Region.binds md e && e.on==i|none=>false
theorem waits_spec {i:Nat} (h:waits md ops st i=true):∃ os,ops[st]? = some os ∧ ∃ e∈os.after,Region.binds md e=true∧e.on=i:=by
 unfold waits at h
 cases ho:ops[st]? with
 | none=>rw[ho] at h;cases h
 | some os =>
  rw[ho] at h
  simp only[Array.any_eq_true,Bool.and_eq_true,beq_iff_eq] at h
  obtain⟨k,hk,h1,h2⟩:=h
  exact⟨os,rfl,_,Array.getElem_mem hk,h1,h2⟩
theorem TillSt.take {i:Nat} {oi:Oper} {v:Value} {n:Nat} {listed:Array Bool} {a:Act} {w:World} (hi:ops[i]? = some oi) (hn:Region.noSelect ops=true) (hf:Region.free md ops listed i=true)
  (hr:(Region.ready md ops listed).contains i=true) (hw:waits md ops st i=true) (hs:listed.getD st true=false) (hQ:∀ c a w,Q (.panic c) (a.put oi.dst v) w→Q (.panic c) a w) (hy:YieldsIf P ops C oi v a) (hC:C w) (hne:i≠st)
  (h:TillSt P md ops Q C st n (listed.setIfInBounds i true) (a.put oi.dst v) w):TillSt P md ops Q C st (n+1) listed a w :=
 TillSt.first hi hn hQ (waits_spec hw) hne n listed a w (Region.free_spec hi hf) (by simpa using hr) hy hC hs h
theorem TillSt.firstP {i:Nat} {oi:Oper} {v:Value} (hi:ops[i]? = some oi) (hn:Region.noSelect ops=true) (hQ:∀ c a w,Q (.panic c) (a.put oi.dst v) w→Q (.panic c) a w) (hne:i≠st) :
  ∀ (n:Nat) (listed:Array Bool) (a:Act) (w:World),(∀ j oj,ops[j]? = some oj→j≠i→listed.getD j true=false→(∀ e∈oj.after,Region.binds md e=true→e.on≠i)→oi.apart ops oj=true) →
   i∈Region.ready md ops listed→YieldsIf P ops (fun _=>True) oi v a→(listed.getD st true=false→C w) →
   TillSt P md ops Q C st n (listed.setIfInBounds i true) (a.put oi.dst v) w→TillSt P md ops Q C st (n+1) listed a w:=by
 have sel:=Region.noSelect_spec hn
 intro n
 induction n with
 | zero =>
  intro listed a w _ hr hy hC H
  refine⟨fun e=>(by rw[e] at hr;cases hr),fun j hj=>?_⟩
  rcases Nat.decEq j i with h|h
  ·have:=ready_mono hj h
   rw[H.1] at this
   cases this
  ·subst h
   exact hy.wpOp hi trivial ⟨fun q=>hC (by rwa [getD_set_ne true hne] at q),H⟩
 | succ n ih =>
  intro listed a w free hr hy hC H
  refine⟨fun e=>(by rw[e] at hr;cases hr),fun j hj=>?_⟩
  rcases Nat.decEq j i with h|h
  ·obtain⟨ju,oj,ho,hall⟩:=mem_ready.1 hj
   have iu:=(mem_ready.1 hr).1
   have lt:i<listed.size:=by
    rcases Nat.lt_or_ge i listed.size with g|g
    ·exact g
    ·simp[Array.getElem?_eq_none g] at iu
   have un:∀ e∈oj.after,Region.binds md e=true→e.on≠i:=fun e he hb q=>by
    have h1:=hall e he hb
    rw[q] at h1
    simp[lt] at iu h1
    rw[iu] at h1
    cases h1
   have s2:((listed.setIfInBounds i true).setIfInBounds j true).getD st true=(listed.setIfInBounds j true).getD st true:=by
    rw[Array.setIfInBounds_comm _ _ (Ne.symm h),getD_set_ne true hne]
   have step:=wpOp_putIf ho (free j oj ho h ju un) (fun cs b=>sel i oi cs b hi) (fun cs b=>sel j oj cs b ho) hQ hy (H.2 j (ready_mono hj h))
   refine wpOp_mono (fun b u q=>⟨fun e=>q.2.1 (by rw[s2];exact e),ih (listed.setIfInBounds j true) b u (fun k ok hk hki ku kn=>free k ok hk hki ?_ kn) (ready_mono hr (Ne.symm h)) q.1 (fun e=>q.2.1 (by rw[s2];exact e)) ?_⟩) step
   ·by_cases hjk:j=k
    ·subst hjk;exact ju
    ·rwa [getD_set_ne true hjk] at ku
   ·rw[Array.setIfInBounds_comm _ _ h]
    exact q.2.2
  ·subst h
   exact hy.wpOp hi trivial ⟨fun q=>hC (by rwa [getD_set_ne true hne] at q),H⟩
theorem TillSt.takeP {i:Nat} {oi:Oper} {v:Value} {n:Nat} {listed:Array Bool} {a:Act} {w:World} (hi:ops[i]? = some oi) (hn:Region.noSelect ops=true) (hf:Region.free md ops listed i=true)
  (hr:(Region.ready md ops listed).contains i=true) (hQ:∀ c a w,Q (.panic c) (a.put oi.dst v) w→Q (.panic c) a w) (hy:YieldsIf P ops (fun _=>True) oi v a) (hC:listed.getD st true=false→C w) (hne:i≠st)
  (h:TillSt P md ops Q C st n (listed.setIfInBounds i true) (a.put oi.dst v) w):TillSt P md ops Q C st (n+1) listed a w :=
 TillSt.firstP hi hn hQ hne n listed a w (Region.free_spec hi hf) (by simpa using hr) hy hC h
def NextSt (P:Program) (md:Region.Mode) (ops:Array Oper) (Q:Exit→Act→World→Prop) (C:World→Prop) (st n:Nat) (listed:Array Bool) (a:Act) (w:World) (rs:List Nat):Prop :=
 ∀ j∈rs,wpOp P ops Q j (fun b v=>((listed.setIfInBounds j true).getD st true=false→C v)∧TillSt P md ops Q C st n (listed.setIfInBounds j true) b v) a w
theorem NextSt.nil {n:Nat} {listed:Array Bool} {a:Act} {w:World}:NextSt P md ops Q C st n listed a w []:=fun _ h=>by cases h
theorem NextSt.cons {n:Nat} {listed:Array Bool} {a:Act} {w:World} {i:Nat} {o:Oper} {rs:List Nat} (ho:ops[i]? = some o)
  (h:∀ K':Act→World→Prop,Shut (∀ a w,C w→(C w→TillSt P md ops Q C st n (listed.setIfInBounds i true) a w)→K' a w)→if Region.wanted o (yielded ops a.tmps)=true then Oper.wp P o a w K' Q else K' (a.put o.dst undef) w)
  (hs:NextSt P md ops Q C st n listed a w rs):NextSt P md ops Q C st n listed a w (i::rs):=fun j hj=>by
 rcases List.mem_cons.1 hj with rfl|hj
 ·exact wpOp_step ho (fun K' hK=>h K' (fun a w hC hW=>hK a w ⟨fun _=>hC,hW hC⟩))
 ·exact hs j hj
theorem NextSt.last {n:Nat} {listed:Array Bool} {a:Act} {w:World} {i:Nat} {o:Oper} {rs:List Nat} (ho:ops[i]? = some o) (hd:(listed.setIfInBounds i true).getD st true=true)
  (h:∀ K':Act→World→Prop,Shut (∀ a w,TillSt P md ops Q C st n (listed.setIfInBounds i true) a w→K' a w)→if Region.wanted o (yielded ops a.tmps)=true then Oper.wp P o a w K' Q else K' (a.put o.dst undef) w)
  (hs:NextSt P md ops Q C st n listed a w rs):NextSt P md ops Q C st n listed a w (i::rs):=fun j hj=>by
 rcases List.mem_cons.1 hj with rfl|hj
 ·exact wpOp_step ho (fun K' hK=>h K' (fun a w hW=>hK a w ⟨fun q=>(by rw[hd] at q;cases q),hW⟩))
 ·exact hs j hj
theorem TillSt.next {rs:List Nat} {n:Nat} {listed:Array Bool} {a:Act} {w:World} (hr:Region.ready md ops listed=rs) (hne:rs ≠ []) (h:NextSt P md ops Q C st n listed a w rs):TillSt P md ops Q C st (n+1) listed a w :=
 ⟨fun h0=>absurd (hr ▸ h0) hne,hr ▸ h⟩
theorem TillSt.done {listed:Array Bool} {a:Act} {w:World} (hr:Region.ready md ops listed = []) (h:Q .normal a w):∀ n,TillSt P md ops Q C st n listed a w
 | 0=>⟨hr,h⟩
 | _+1=>⟨fun _=>h,by rw[hr];simp⟩
theorem TillSt.start {id:Nat} {a:Act} {w:World} (C:World→Prop) (st:Nat) (hm:P.follows .mixedOrders=true) (hC:C w.drew) (h:C w.drew→TillSt P .any ops Q C st ops.size (Array.replicate ops.size false) a w.drew):(Code.region id ops true).wp P Q a w :=
 wp_region_any hm (TillSt.any _ _ _ _ (h hC))
end
section
variable {P : Program} {ops : Array Oper} {Q : Exit → Act → World → Prop} {md : Region.Mode} {C : World → Prop} {st : Nat}
theorem TillSt.tP (i:Nat) {oi:Oper} {v:Value} {n:Nat} {listed:Array Bool} {a a':Act} {w:World} (hC:listed.getD st true=false→C w)
  (h:TillSt P md ops Q C st n (listed.setIfInBounds i true) a' w)
  (hi:ops[i]? = some oi:=by(try simp only[List.getElem?_toArray,List.getElem?_cons_succ,List.getElem?_cons_zero]);(try rfl))
  (hn:Region.noSelect ops=true:=by kernel_rfl) (hf:Region.free md ops listed i=true:=by kernel_rfl) (hr:(Region.ready md ops listed).contains i=true:=by kernel_rfl)
  (hQ:∀ c a w,Q (.panic c) (a.put oi.dst v) w→Q (.panic c) a w:=by exact fun _ _ _ h=>h)
  (hy:YieldsIf P ops (fun _=>True) oi v a:=by exact Or.inl ⟨by rfl,by intro w hSw;clear hSw;go_simp;try with_reducible rfl⟩) (hne:i≠st:=by decide)
  (ha:a.put oi.dst v=a':=by first|(simp only[Act.put,List.setIfInBounds_toArray,List.set_cons_zero,List.set_cons_succ];done)|(simp only[Act.put,List.setIfInBounds_toArray,List.set_cons_zero,List.set_cons_succ];rfl)|rfl):TillSt P md ops Q C st (n+1) listed a w:=by
 subst ha
 exact TillSt.takeP hi hn hf hr hQ hy hC hne h
theorem TillSt.tL (i:Nat) {oi:Oper} {v:Value} {n:Nat} {listed:Array Bool} {a a':Act} {w:World} (hC:C w)
  (hi:ops[i]? = some oi:=by(try simp only[List.getElem?_toArray,List.getElem?_cons_succ,List.getElem?_cons_zero]);(try rfl))
  (hy:YieldsIf P ops C oi v a) (h:TillSt P md ops Q C st n (listed.setIfInBounds i true) a' w)
  (hn:Region.noSelect ops=true:=by kernel_rfl) (hf:Region.free md ops listed i=true:=by kernel_rfl) (hr:(Region.ready md ops listed).contains i=true:=by kernel_rfl)
  (hw:waits md ops st i=true:=by kernel_rfl) (hs:listed.getD st true=false:=by kernel_rfl)
  (hQ:∀ c a w,Q (.panic c) (a.put oi.dst v) w→Q (.panic c) a w:=by exact fun _ _ _ h=>h) (hne:i≠st:=by decide)
  (ha:a.put oi.dst v=a':=by first|(simp only[Act.put,List.setIfInBounds_toArray,List.set_cons_zero,List.set_cons_succ];done)|(simp only[Act.put,List.setIfInBounds_toArray,List.set_cons_zero,List.set_cons_succ];rfl)|rfl):TillSt P md ops Q C st (n+1) listed a w:=by
 subst ha
 exact TillSt.take hi hn hf hr hw hs hQ hy hC hne h
theorem TillSt.nx (rs:List Nat) {n:Nat} {listed:Array Bool} {a:Act} {w:World} (h:NextSt P md ops Q C st n listed a w rs) (hr:Region.ready md ops listed=rs:=by kernel_rfl) (hne:rs ≠ []:=by simp):TillSt P md ops Q C st (n+1) listed a w:=TillSt.next hr hne h
end
end Wd
namespace Tw
open Go.RowKit Lw Tk Wd Go.Proofs.YtdnogmanbdgadaaGreatDoor.Ap Go.Proofs.YtdnogmanbdgadaaGreatDoor.Op Go.Proofs.YtdnogmanbdgadaaGreatDoor.Mp Go.Proofs.YtdnogmanbdgadaaGreatDoor.Mw Go.Proofs.YtdnogmanbdgadaaGreatDoor.At Go.Proofs.YtdnogmanbdgadaaGreatDoor.Ow

def tG:ByteArray:=⟨#[50,48,50,54,45,49,49,45,49,54,84,48,51,58,48,48,58,48,48,90]⟩
theorem k_timeG:ParseIs tG 848070069184000 0:=parse_k (by decide +kernel) (by decide +kernel)
def oG (t ra:Int):Ob:=⟨⟨#[97]⟩,⟨#[70,53,49]⟩,t,ra,0,1,9999,32⟩
def lG (s:Int):List Ob:=[oG 848070069184000 1000,oG 848073669184000 s,oG 848080869184000 1300]
def uG:Rl:=⟨3600000000,14400000000,10000,10,3⟩
theorem rng_split {w:World} {b o:Nat} {xs ys:List Value} (h:w.rangeAt b o (xs++ys)):w.rangeAt b o xs∧w.rangeAt b (o+xs.length) ys:=by
 refine⟨fun j v hv=>h j v ?_,fun j v hv=>?_⟩
 ·rw[List.getElem?_append_left (List.getElem?_eq_some_iff.1 hv).1]
  exact hv
 ·have:=h (xs.length+j) v (by rw[List.getElem?_append_right (by omega),Nat.add_sub_cancel_left];exact hv)
  rwa [← Nat.add_assoc] at this
theorem obs_three {w:World} {b:Nat} {a c d:Ob} (h:w.rangeAt b 0 (obsC a++(obsC c++obsC d))):ObsAt w b 0 [a,c,d]:=by
 obtain⟨h1,h2⟩:=rng_split h
 obtain⟨h2,h3⟩:=rng_split h2
 intro i hi
 have:i=0∨i=1∨i=2:=by simp at hi;omega
 rcases this with rfl|rfl|rfl
 ·exact h1
 ·exact h2
 ·exact h3
theorem Fr.set2 {w0 w:World} {L:List (Nat×List Value)} (h:Fr w0 L w) (k:Nat) {b:Nat} {v0 v1 v2 v3 v4 v5 v6 v7 x y:Value} (hk:L[k]? = some (b,[v0,v1,v2,v3,v4,v5,v6,v7])) :
  Fr w0 (L.set k (b,[v0,v1,x,y,v4,v5,v6,v7])) ((w.setCell ⟨b,2,none⟩ x).setCell ⟨b,3,none⟩ y) :=
 h.set k hk 2 [x,y] [v0,v1,x,y,v4,v5,v6,v7] rfl (by simp) (fun j hj=>match j,hj with|0,_=>rfl|1,_=>rfl) (fun j hj=>match j,hj with|0,_=>rfl|1,_=>rfl|2,h=>by simp at h|3,h=>by simp at h|j+4,_=>rfl)
theorem lrule_any (w:World):Calls Tryz.prog 22 #[] w fun e w'=>e = .returned (rlV uG)∧Below w.heap.size w w':=by
 go_enter Tryz.func22,Tryz.ntmps22
 go_wp2_with fail
 exact bodyPost_ret (ret_cell Tryz.results22 _ _ w.heap.size (rlC uG) _ rfl (rangeAt_new w (rlC uG) _) Tryz.underlying24 rfl info5) rfl ⟨rfl,(Below.refl w.heap.size w).alloc (Nat.le_refl _) _⟩
theorem given_any (s:Int) (w:World):Calls Tryz.prog 20 #[.int .i64 s] w fun e w'=>∃ b,w.heap.size≤b∧e = .returned (.slice (some ⟨b,0,none⟩) 3 3)∧ObsAt w' b 0 (lG s)∧Below w.heap.size w w'∧b<w'.heap.size:=by
 have PA:=Lib.hid (fun w'=>Ap.parse_any tG w' (by decide))
 have F0:=Lib.hid (Fr.start w)
 go_enter Tryz.func20,Tryz.ntmps20
 go_upto_region 3 with(go_at_call 51;refine(PA.out _).mono ?_;rintro e w1 ⟨t,c,rfl,hP,hb⟩;obtain⟨rfl,rfl⟩:=hP.uniq k_timeG;have F1:=(F0.out.call hb);have F2:=Lib.hid (F1.alloc [.string ⟨#[97]⟩, .string ⟨#[70,53,49]⟩, .int .i64 848070069184000, .int .i64 1000, .int .i64 0, .int .i64 1, .int .i64 9999, .int .u8 32] 31);clear hP hb F0 PA F1)
 generalize World.alloc w1 _=w2 at *
 replace F2:=Lib.hid F2.out.drew
 refine TillSt.start (fun w'=>w'.rangeAt w1.heap.size 0 (obsC (oG 848070069184000 1000))) 5 (by kernel_rfl) (F2.out.get 0 rfl) (fun hHeld=>?_)
 generalize World.drew w2=wd at *
 refine TillSt.take (i:=0) (oi:=?oi0x1) (v:=?v0x1) ?hi0x1 (by kernel_rfl) (by kernel_rfl) (by kernel_rfl) (by kernel_rfl) (by kernel_rfl) ?hq0x1 ?hy0x1 hHeld (by decide) ?rest0x1
 case hi0x1=>((try simp only[List.getElem?_toArray,List.getElem?_cons_succ,List.getElem?_cons_zero]);(try rfl))
 case hq0x1=>exact fun _ _ _ h=>h
 case hy0x1 =>
  refine' yieldsIf_load_mid ?_ 31 (.tmp 5) ?_ w1.heap.size 0 ?_ [.string ⟨#[97]⟩, .string ⟨#[70,53,49]⟩, .int .i64 848070069184000, .int .i64 1000, .int .i64 0, .int .i64 1, .int .i64 9999, .int .u8 32] _ ?_ Tryz.underlying31 ?_ info8
  ·rfl
  ·rfl
  ·rfl
  ·exact fun _ h=>h
  ·rfl
 try simp only[Act.put,Lw.s1,Lw.s2,Lw.s3]
 refine TillSt.take (i:=1) (oi:=?oi1x2) (v:=?v1x2) ?hi1x2 (by kernel_rfl) (by kernel_rfl) (by kernel_rfl) (by kernel_rfl) (by kernel_rfl) ?hq1x2 ?hy1x2 hHeld (by decide) ?rest1x2
 case hi1x2=>((try simp only[List.getElem?_toArray,List.getElem?_cons_succ,List.getElem?_cons_zero]);(try rfl))
 case hq1x2=>exact fun _ _ _ h=>h
 case hy1x2 =>
  refine' yieldsIf_load_mid ?_ 31 (.tmp 5) ?_ w1.heap.size 0 ?_ [.string ⟨#[97]⟩, .string ⟨#[70,53,49]⟩, .int .i64 848070069184000, .int .i64 1000, .int .i64 0, .int .i64 1, .int .i64 9999, .int .u8 32] _ ?_ Tryz.underlying31 ?_ info8
  ·rfl
  ·rfl
  ·rfl
  ·exact fun _ h=>h
  ·rfl
 try simp only[Act.put,Lw.s1,Lw.s2,Lw.s3]
 refine TillSt.nx [2,3] ?_
 refine NextSt.cons rfl (fun K' hK=>?_) (NextSt.cons rfl (fun K' hK=>?_) NextSt.nil)
 ·skip
  clear hHeld
  go_simp
  have FA:=F2.out.alloc [.string ⟨#[]⟩, .string ⟨#[]⟩, .int .i64 0, .int .i64 0, .int .i64 0, .int .i64 0, .int .i64 0, .int .u8 0] 31
  replace F2:=Lib.hid FA
  clear FA
  have bb:=congrArg (fun n:Nat=>n) (rfl:wd.heap.size=wd.heap.size)
  clear bb
  generalize World.alloc wd _=wb at *
  refine hK.out _ _ (F2.out.get 1 rfl) (fun hHeld=>?_)
  clear hK
  try simp only[Act.put,Lw.s1,Lw.s2,Lw.s3]
  refine TillSt.nx [3] ?_
  refine NextSt.cons rfl (fun K' hK=>?_) NextSt.nil
  clear hHeld
  go_simp
  have FA:=F2.out.alloc [.string ⟨#[]⟩, .string ⟨#[]⟩, .int .i64 0, .int .i64 0, .int .i64 0, .int .i64 0, .int .i64 0, .int .u8 0] 31
  replace F2:=Lib.hid FA
  clear FA
  have bb:=congrArg (fun n:Nat=>n) (rfl:wb.heap.size=wb.heap.size)
  clear bb
  generalize World.alloc wb _=wc at *
  refine hK.out _ _ (F2.out.get 2 rfl) (fun hHeld=>?_)
  clear hK
  try simp only[Act.put,Lw.s1,Lw.s2,Lw.s3]
  refine TillSt.nx [4] ?_
  refine NextSt.cons rfl (fun K' hK=>?_) NextSt.nil
  obtain⟨s0,s1,s2,s3,s4,s5,s6,s7⟩:=F2.out.c8 1 rfl
  obtain⟨f0,f1,f2,f3,f4,f5,f6,f7⟩:=F2.out.f8 1 rfl
  clear hHeld
  go_simp
  clear s0 s1 s2 s3 s4 s5 s6 s7 f0 f1 f2 f3 f4 f5 f6 f7
  replace F2:=Lib.hid (F2.out.put 1 rfl [.string ⟨#[97]⟩, .string ⟨#[70,53,49]⟩, .int .i64 848070069184000, .int .i64 1000, .int .i64 0, .int .i64 1, .int .i64 9999, .int .u8 32] rfl)
  simp only[World.setCells,Nat.reduceAdd] at F2
  generalize World.setCell _ _ _=we at *
  refine hK.out _ _ (F2.out.get 2 rfl) (fun hHeld=>?_)
  clear hK
  try simp only[Act.put,Lw.s1,Lw.s2,Lw.s3]
  refine TillSt.nx [5] ?_
  refine NextSt.last rfl (by kernel_rfl) (fun K' hK=>?_) NextSt.nil
  obtain⟨s0,s1,s2,s3,s4,s5,s6,s7⟩:=F2.out.c8 0 rfl
  obtain⟨f0,f1,f2,f3,f4,f5,f6,f7⟩:=F2.out.f8 0 rfl
  clear hHeld
  go_simp
  clear s0 s1 s2 s3 s4 s5 s6 s7 f0 f1 f2 f3 f4 f5 f6 f7
  replace F2:=Lib.hid (F2.out.put 0 rfl [.string ⟨#[97]⟩, .string ⟨#[70,53,49]⟩, .int .i64 848070069184000, .int .i64 1000, .int .i64 0, .int .i64 1, .int .i64 9999, .int .u8 32] rfl)
  simp only[World.setCells,Nat.reduceAdd] at F2
  generalize World.setCell _ _ _=wf at *
  refine hK.out _ _ ?_
  clear hK
  try simp only[Act.put,Lw.s1,Lw.s2,Lw.s3]
  refine TillSt.done (by kernel_rfl) ?_ _
  have n1:¬ wd.heap.size=wb.heap.size:=fun q=>by
   have nd:=F2.out.nd
   simp at nd
   omega
  have a2:=F2.out.cell 1 2 rfl rfl
  have fa2:=F2.out.fz 1 2 rfl rfl
  have a3:=F2.out.cell 1 3 rfl rfl
  have fa3:=F2.out.fz 1 3 rfl rfl
  have b2:=F2.out.cell 0 2 rfl rfl
  have fb2:=F2.out.fz 0 2 rfl rfl
  have b3:=F2.out.cell 0 3 rfl rfl
  have fb3:=F2.out.fz 0 3 rfl rfl
  go_upto_region 5 with fail
  clear a2 a3 b2 b3 fa2 fa3 fb2 fb3
  replace F2:=Lib.hid ((F2.out.set2 1 (x:=.int .i64 848073669184000) (y:=.int .i64 s) rfl).set2 0 (x:=.int .i64 848080869184000) (y:=.int .i64 1300) rfl)
  generalize World.setCell _ _ _=wg at *
  obtain⟨c0,c1,c2,c3,c4,c5,c6,c7⟩:=F2.out.c8 2 rfl
  obtain⟨a0,a1,a2,a3,a4,a5,a6,a7⟩:=F2.out.c8 1 rfl
  obtain⟨b0,b1,b2,b3,b4,b5,b6,b7⟩:=F2.out.c8 0 rfl
  go_wp2_with fail
  exact bodyPost_ret (results_tmp rfl _ _ _) rfl ⟨wg.heap.size,F2.out.below.size,rfl,obs_three (a:=oG 848070069184000 1000) (c:=oG 848073669184000 s) (d:=oG 848080869184000 1300) (rangeAt_new wg _ _),F2.out.below.alloc F2.out.below.size _,by simp⟩
 ·skip
  clear hHeld
  go_simp
  have FA:=F2.out.alloc [.string ⟨#[]⟩, .string ⟨#[]⟩, .int .i64 0, .int .i64 0, .int .i64 0, .int .i64 0, .int .i64 0, .int .u8 0] 31
  replace F2:=Lib.hid FA
  clear FA
  have bb:=congrArg (fun n:Nat=>n) (rfl:wd.heap.size=wd.heap.size)
  clear bb
  generalize World.alloc wd _=wb at *
  refine hK.out _ _ (F2.out.get 1 rfl) (fun hHeld=>?_)
  clear hK
  try simp only[Act.put,Lw.s1,Lw.s2,Lw.s3]
  refine TillSt.nx [2] ?_
  refine NextSt.cons rfl (fun K' hK=>?_) NextSt.nil
  clear hHeld
  go_simp
  have FA:=F2.out.alloc [.string ⟨#[]⟩, .string ⟨#[]⟩, .int .i64 0, .int .i64 0, .int .i64 0, .int .i64 0, .int .i64 0, .int .u8 0] 31
  replace F2:=Lib.hid FA
  clear FA
  have bb:=congrArg (fun n:Nat=>n) (rfl:wb.heap.size=wb.heap.size)
  clear bb
  generalize World.alloc wb _=wc at *
  refine hK.out _ _ (F2.out.get 2 rfl) (fun hHeld=>?_)
  clear hK
  try simp only[Act.put,Lw.s1,Lw.s2,Lw.s3]
  refine TillSt.nx [4] ?_
  refine NextSt.cons rfl (fun K' hK=>?_) NextSt.nil
  obtain⟨s0,s1,s2,s3,s4,s5,s6,s7⟩:=F2.out.c8 0 rfl
  obtain⟨f0,f1,f2,f3,f4,f5,f6,f7⟩:=F2.out.f8 0 rfl
  clear hHeld
  go_simp
  clear s0 s1 s2 s3 s4 s5 s6 s7 f0 f1 f2 f3 f4 f5 f6 f7
  replace F2:=Lib.hid (F2.out.put 0 rfl [.string ⟨#[97]⟩, .string ⟨#[70,53,49]⟩, .int .i64 848070069184000, .int .i64 1000, .int .i64 0, .int .i64 1, .int .i64 9999, .int .u8 32] rfl)
  simp only[World.setCells,Nat.reduceAdd] at F2
  generalize World.setCell _ _ _=we at *
  refine hK.out _ _ (F2.out.get 2 rfl) (fun hHeld=>?_)
  clear hK
  try simp only[Act.put,Lw.s1,Lw.s2,Lw.s3]
  refine TillSt.nx [5] ?_
  refine NextSt.last rfl (by kernel_rfl) (fun K' hK=>?_) NextSt.nil
  obtain⟨s0,s1,s2,s3,s4,s5,s6,s7⟩:=F2.out.c8 1 rfl
  obtain⟨f0,f1,f2,f3,f4,f5,f6,f7⟩:=F2.out.f8 1 rfl
  clear hHeld
  go_simp
  clear s0 s1 s2 s3 s4 s5 s6 s7 f0 f1 f2 f3 f4 f5 f6 f7
  replace F2:=Lib.hid (F2.out.put 1 rfl [.string ⟨#[97]⟩, .string ⟨#[70,53,49]⟩, .int .i64 848070069184000, .int .i64 1000, .int .i64 0, .int .i64 1, .int .i64 9999, .int .u8 32] rfl)
  simp only[World.setCells,Nat.reduceAdd] at F2
  generalize World.setCell _ _ _=wf at *
  refine hK.out _ _ ?_
  clear hK
  try simp only[Act.put,Lw.s1,Lw.s2,Lw.s3]
  refine TillSt.done (by kernel_rfl) ?_ _
  have n1:¬ wb.heap.size=wd.heap.size:=fun q=>by
   have nd:=F2.out.nd
   simp at nd
   omega
  have a2:=F2.out.cell 0 2 rfl rfl
  have fa2:=F2.out.fz 0 2 rfl rfl
  have a3:=F2.out.cell 0 3 rfl rfl
  have fa3:=F2.out.fz 0 3 rfl rfl
  have b2:=F2.out.cell 1 2 rfl rfl
  have fb2:=F2.out.fz 1 2 rfl rfl
  have b3:=F2.out.cell 1 3 rfl rfl
  have fb3:=F2.out.fz 1 3 rfl rfl
  go_upto_region 5 with fail
  clear a2 a3 b2 b3 fa2 fa3 fb2 fb3
  replace F2:=Lib.hid ((F2.out.set2 0 (x:=.int .i64 848073669184000) (y:=.int .i64 s) rfl).set2 1 (x:=.int .i64 848080869184000) (y:=.int .i64 1300) rfl)
  generalize World.setCell _ _ _=wg at *
  obtain⟨c0,c1,c2,c3,c4,c5,c6,c7⟩:=F2.out.c8 2 rfl
  obtain⟨a0,a1,a2,a3,a4,a5,a6,a7⟩:=F2.out.c8 0 rfl
  obtain⟨b0,b1,b2,b3,b4,b5,b6,b7⟩:=F2.out.c8 1 rfl
  go_wp2_with fail
  exact bodyPost_ret (results_tmp rfl _ _ _) rfl ⟨wg.heap.size,F2.out.below.size,rfl,obs_three (a:=oG 848070069184000 1000) (c:=oG 848073669184000 s) (d:=oG 848080869184000 1300) (rangeAt_new wg _ _),F2.out.below.alloc F2.out.below.size _,by simp⟩
end Tw
namespace Wd
open Go.RowKit Lw Tw

theorem col_any (i k b1 b2:Nat) (V1:Value) (ts:List Int) (w:World) (h1:R2 w V1 ts) (c1:w.cell? ⟨b1,0,none⟩=some V1) (c2:w.cell? ⟨b2,0,none⟩=some (.int .i64 k)) (hi:i<ts.length) (hk:k<2) (hn:ts.length≤1000) :
  Calls Tryz.prog 174 #[.int .i64 i, .pointer (some ⟨b1,0,none⟩), .pointer (some ⟨b2,0,none⟩)] w fun e w'=>e = .returned (.int .i64 (if k=0 then 1 else ts[i]))∧Below w.heap.size w w':=by
 have h2:=h1
 obtain⟨A1,p1,sls,rfl, -, -, -⟩:=h2
 obtain⟨g,a,c,hA, -, -,cA,I,J,hI,hJ⟩:=h1.cell hi
 cases hA
 have cB:∃ gr,a=some ⟨gr,0,none⟩∧w.cell? ⟨gr,k,none⟩=some (.int .i64 (if k=0 then 1 else ts[i])):=by
  have e2:=hI
  cases e2
  rcases(show k=0∨k=1 by omega) with rfl|rfl
  ·obtain⟨g,e, -,r⟩:=rows_cell1 hJ (i:=0) (by simp)
   exact⟨g,e,r⟩
  ·obtain⟨g,e, -,r⟩:=rows_cell1 hJ (i:=1) (by simp)
   exact⟨g,e,r⟩
 obtain⟨gr,rfl,cB⟩:=cB
 generalize (if k=0 then(1:Int) else ts[i])=x at *
 have k1:(i:Int)<(ts.length:Int):=by omega
 have k2:(k:Int)<2:=by omega
 clear h1 hI hJ hi hk hn
 generalize ts.length=n at *
 go_enter Tryz.func174,Tryz.ntmps174
 go_wp2_with fail
 go_quiet (fail)
 go_wp2_with fail
 exact bodyPost_ret (results_tmp rfl _ _ _) rfl ⟨rfl,drewN_below2 (Below.refl _ _) _⟩
theorem side_any (i b1:Nat) (V1:Value) (vs:List Int) (w:World) (h1:I6 w V1 vs) (c1:w.cell? ⟨b1,0,none⟩=some V1) (hi:i<vs.length) (hn:vs.length≤1000) :
  Calls Tryz.prog 175 #[.int .i64 i, .pointer (some ⟨b1,0,none⟩)] w fun e w'=>e = .returned (.int .i64 vs[i])∧Below w.heap.size w w':=by
 obtain⟨A1,p1,rfl,hR⟩:=h1
 obtain⟨g,rfl, -,cA⟩:=rows_cell1 hR hi
 have k1:(i:Int)<(vs.length:Int):=by omega
 generalize vs[i]=x at *
 clear hR hi hn
 generalize vs.length=n at *
 go_enter Tryz.func175,Tryz.ntmps175
 go_wp2_with fail
 exact bodyPost_ret (results_tmp rfl _ _ _) rfl ⟨rfl,Below.refl _ _⟩
theorem S_bd {a b:Nat→Int} {n:Nat} (ha:∀ i,i<n→(a i).natAbs≤1099511627776) (hb:∀ i,i<n→(b i).natAbs≤1099511627776):(Ls.S a b n).natAbs≤n*1208925819614629174706176:=by
 induction n with
 | zero=>simp[Ls.S]
 | succ n ih =>
  have h1:=ih (fun i h=>ha i (by omega)) (fun i h=>hb i (by omega))
  have h2:(a n*b n).natAbs≤1208925819614629174706176:=by
   rw[Int.natAbs_mul]
   exact Nat.le_trans (Nat.mul_le_mul (ha n (by omega)) (hb n (by omega))) (by decide)
  have h3:=Int.natAbs_add_le (Ls.S a b n) (1*(a n*b n))
  rw[Int.one_mul] at h3
  show (Ls.S a b n+1*(a n*b n)).natAbs≤_
  rw[Int.one_mul]
  omega
theorem S_len {a b:Nat→Int} {n:Nat} (hn:n≤200) (ha:∀ i,i<n→(a i).natAbs≤1099511627776) (hb:∀ i,i<n→(b i).natAbs≤1099511627776):(canon (Ls.S a b n).natAbs).length≤3:=by
 have:=S_bd ha hb
 exact canon_len 3 _ (Nat.lt_of_le_of_lt (Nat.le_trans this (Nat.mul_le_mul_right _ hn)) (by decide))
abbrev dL (w:World) (z:Int) (x:Option Addr) (k c:Nat):List (Nat×List Value):=[(w.heap.size+1,wdV (decide (z<0)) x k c),(w.heap.size,frV false none 0 0 false none 0 0)]
def DotR (w:World) (a b:Nat→Int) (n:Nat) (i:Value) (wr:World):Prop:=∃ (j':Nat) (z':Int) (x:Option Addr) (k c:Nat),j'≤n∧i = .int .i64 j'∧z'=Ls.S a b j'∧Fr w (dL w z' x k c) wr∧Lim wr x k c (canon z'.natAbs) ∧ ∀ b off,x=some ⟨b,off,none⟩→w.heap.size+2≤b
end Wd
end Go.Proofs.YtdnogmanbdgadaaGreatDoor
