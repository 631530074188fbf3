/-
  Lemmas and walks, texts joined: QWhA.
-/
import Derived.Test.YtdnogmanbdgadaaGreatDoorTb30
set_option linter.unusedSimpArgs false
set_option linter.unusedVariables false
set_option maxRecDepth 100000
set_option maxHeartbeats 40000000
namespace Go.Proofs.YtdnogmanbdgadaaGreatDoor
namespace Wd
open Go.RowKit Lw Tw

section
open Go
variable {P : Program} {ops : Array Oper} {Q : Exit → Act → World → Prop} {md : Region.Mode} {C : World → Prop} {st : Nat}
theorem TillSt.firstW {i:Nat} {oi:Oper} {v:Value} (Wt:List Nat) (hi:ops[i]? = some oi) (hn:Region.noSelect ops=true) (hQ:∀ c a w,Q (.panic c) (a.put oi.dst v) w→Q (.panic c) a w)
  (hW:∀ k∈Wt,∃ ok,ops[k]? = some ok ∧ ∃ e∈ok.after,Region.binds md e=true∧(e.on=i∨e.on∈Wt)) (hst:st∈Wt) (hne:i ∉ Wt) :
  ∀ (n:Nat) (listed:Array Bool) (a:Act) (w:World),(∀ j oj,ops[j]? = some oj→j≠i→listed.getD j true=false→(∀ e∈oj.after,Region.binds md e=true→e.on≠i)→oi.apart ops oj=true) →
   i∈Region.ready md ops listed→YieldsIf P ops C oi v a→C w→(∀ k∈Wt,listed.getD k true=false) →
   TillSt P md ops Q C st n (listed.setIfInBounds i true) (a.put oi.dst v) w→TillSt P md ops Q C st (n+1) listed a w:=by
 have sel:=Region.noSelect_spec hn
 intro n
 induction n with
 | zero =>
  intro listed a w _ hr hy hC _ H
  refine⟨fun e=>(by rw[e] at hr;cases hr),fun j hj=>?_⟩
  rcases Nat.decEq j i with h|h
  ·have:=ready_mono hj h
   rw[H.1] at this
   cases this
  ·subst h
   exact hy.wpOp hi hC ⟨fun _=>hC,H⟩
 | succ n ih =>
  intro listed a w free hr hy hC hs H
  refine⟨fun e=>(by rw[e] at hr;cases hr),fun j hj=>?_⟩
  rcases Nat.decEq j i with h|h
  ·obtain⟨ju,oj,ho,hall⟩:=mem_ready.1 hj
   have iu:=(mem_ready.1 hr).1
   have bl:∀ k,listed.getD k true=false→listed[k]? = some false:=fun k hk=>by
    rcases Nat.lt_or_ge k listed.size with g|g
    ·simp[g] at hk
     simp[g,hk]
    ·simp[Array.getD,Nat.not_lt.2 g] at hk
   have un0:∀ e∈oj.after,Region.binds md e=true→listed.getD e.on true=false→False:=fun e he hb q=>by
    have h1:=hall e he hb
    have h2:=bl _ q
    simp[Array.getD_eq_getD_getElem?,h2] at h1
   have jW:j ∉ Wt:=fun q=>by
    obtain⟨ok,hok,e,he,hb,hor⟩:=hW j q
    rw[ho] at hok
    cases hok
    rcases hor with g|g
    ·exact un0 e he hb (by rw[g];exact iu)
    ·exact un0 e he hb (hs _ g)
   have un:∀ e∈oj.after,Region.binds md e=true→e.on≠i:=fun e he hb q=>un0 e he hb (by rw[q];exact iu)
   have ne:∀ k∈Wt,j≠k:=fun k hk q=>jW (q ▸ hk)
   have nei:∀ k∈Wt,i≠k:=fun k hk q=>hne (q ▸ hk)
   have s1:∀ k∈Wt,(listed.setIfInBounds j true).getD k true=false:=fun k hk=>by rw[getD_set_ne true (ne k hk)];exact hs k hk
   have s2:((listed.setIfInBounds i true).setIfInBounds j true).getD st true=false:=by rw[getD_set_ne true (ne st hst),getD_set_ne true (nei st hst)];exact hs st hst
   have step:=wpOp_putIf ho (free j oj ho h ju un) (fun cs b=>sel i oi cs b hi) (fun cs b=>sel j oj cs b ho) hQ hy (H.2 j (ready_mono hj h))
   refine wpOp_mono (fun b u q=>⟨fun _=>q.2.1 s2,ih (listed.setIfInBounds j true) b u (fun k ok hk hki ku kn=>free k ok hk hki ?_ kn) (ready_mono hr (Ne.symm h)) q.1 (q.2.1 s2) s1 ?_⟩) step
   ·by_cases hjk:j=k
    ·subst hjk;exact ju
    ·rwa [getD_set_ne true hjk] at ku
   ·rw[Array.setIfInBounds_comm _ _ h]
    exact q.2.2
  ·subst h
   exact hy.wpOp hi hC ⟨fun _=>hC,H⟩
def waitsW (md:Region.Mode) (ops:Array Oper) (Wt:List Nat) (i:Nat):Bool:=Wt.all fun k=>match ops[k]? with|some ok=>ok.after.any fun e=>Region.binds md e && (e.on==i || Wt.contains e.on)|none=>false
theorem waitsW_spec {Wt:List Nat} {i:Nat} (h:waitsW md ops Wt i=true):∀ k∈Wt,∃ ok,ops[k]? = some ok ∧ ∃ e∈ok.after,Region.binds md e=true∧(e.on=i∨e.on∈Wt):=fun k hk=>by
 have h1:=List.all_eq_true.1 h k hk
 cases ho:ops[k]? with
 | none=>rw[ho] at h1;cases h1
 | some ok =>
  rw[ho] at h1
  simp only[Array.any_eq_true,Bool.and_eq_true,Bool.or_eq_true,beq_iff_eq,List.contains_iff_mem] at h1
  obtain⟨m,hm,h1,h2⟩:=h1
  exact⟨ok,rfl,_,Array.getElem_mem hm,h1,h2⟩
theorem TillSt.takeW {i:Nat} {oi:Oper} {v:Value} {n:Nat} {listed:Array Bool} {a:Act} {w:World} (Wt:List Nat) (hi:ops[i]? = some oi) (hn:Region.noSelect ops=true) (hf:Region.free md ops listed i=true)
  (hr:(Region.ready md ops listed).contains i=true) (hw:waitsW md ops Wt i=true) (hst:Wt.contains st=true) (hs:(Wt.all fun k=>listed.getD k true==false)=true) (hQ:∀ c a w,Q (.panic c) (a.put oi.dst v) w→Q (.panic c) a w) (hy:YieldsIf P ops C oi v a) (hC:C w) (hne:Wt.contains i=false)
  (h:TillSt P md ops Q C st n (listed.setIfInBounds i true) (a.put oi.dst v) w):TillSt P md ops Q C st (n+1) listed a w :=
 TillSt.firstW Wt hi hn hQ (waitsW_spec hw) (by simpa using hst) (fun q=>by rw[List.contains_iff_mem.2 q] at hne;cases hne) n listed a w (Region.free_spec hi hf) (by simpa using hr) hy hC (fun k hk=>by have:=List.all_eq_true.1 hs k hk;simpa using this) h
end
theorem Fr.away {w0 w:World} {L:List (Nat×List Value)} (h:Fr w0 L w) {c:Nat} (hc:w0.heap.size≤c) (hne:∀ p∈L,p.1≠c) (o:Nat) (vs:List Value):Fr w0 L (w.setCells c o vs) :=
 ⟨below_setCells c hc vs o w h.below,h.lo,fun p hp=>by rw[sizes];exact h.hi p hp,h.nd,fun p hp=>World.rangeAt_setCells_apart (h.row p hp) c o vs (Or.inl (hne p hp)),fun p hp=>World.there_setCells (h.th p hp) c o vs⟩
def fillZ (M:List Int) (j:Nat):List Int:=M.take j++List.replicate (M.length-j) 0
theorem fillZ_len (M:List Int) (j:Nat) (h:j≤M.length):(fillZ M j).length=M.length:=by simp[fillZ];omega
theorem fillZ_set (M:List Int) (j:Nat) (h:j<M.length):(fillZ M j).set j M[j]=fillZ M (j+1):=by
 unfold fillZ
 have e:M.length-j=(M.length-(j+1))+1:=by omega
 have l:(M.take j).length=j:=by simp;omega
 rw[e,List.replicate_succ,List.set_append_right _ _ (by omega),l,Nat.sub_self,List.set_cons_zero,List.take_succ_eq_append_getElem h,List.append_assoc]
 rfl
theorem fillZ_all (M:List Int):fillZ M M.length=M:=by simp[fillZ]
theorem RowF.elem {w:World} {B:Nat} {v:Value} {rs:List Rat} (h:RowF w B v rs) {j:Nat} (hj:j<rs.length):∃ g cap,∃ x:Fc,v = .slice (some ⟨g,0,none⟩) rs.length cap∧g<w.heap.size∧w.rangeAt g (j*4) (fcE x)∧FcR w B x rs[j]:=by
 obtain⟨cs,h1,h2,h3⟩:=h
 obtain⟨A,cap,e,hr, -⟩:=OwnG.form (k:=4) (enc:=fcE) (fun _=>rfl) h1
 obtain⟨g,eA,lt,r⟩:=hr.row j (by omega)
 exact⟨g,cap,cs[j],by rw[e,eA,h2],lt,r,(h3 j (by omega) hj).1⟩
theorem make_w3 (w:World):(Instr.makeSlice 222 (.int .i64 3) (.int .i64 3)).run Tryz.prog w = .ok (.slice (some ⟨w.heap.size,0,none⟩) 3 3) (w.alloc (.cells #[.bool false, .slice none 0 0, .bool false, .slice none 0 0, .bool false, .slice none 0 0] 66)):=by
 obtain⟨i,hi,hzz⟩:=Option.map_eq_some_iff.1 info_wc
 simp only[Prod.mk.injEq] at hzz
 obtain⟨hz,hs,hb⟩:=hzz
 have h:=run_make (P:=Tryz.prog) w 222 66 i _ Tryz.underlying222 hi hz .i64 .i64 3 3 (by omega) (Int.le_refl _) (by rw[hb];decide) (by decide)
 rw[hs] at h
 have e:madeCells (Value.agg #[.bool false, .slice none 0 0]).cells (Int.toNat 3*2) = #[.bool false, .slice none 0 0, .bool false, .slice none 0 0, .bool false, .slice none 0 0]:=by kernel_rfl
 rw[e] at h
 exact h
theorem row_new (w:World):RowW (w.alloc (.cells #[.bool false, .slice none 0 0, .bool false, .slice none 0 0, .bool false, .slice none 0 0] 66)) w.heap.size [0,0,0]:=by
 refine⟨⟨[⟨false,none,0,0⟩,⟨false,none,0,0⟩,⟨false,none,0,0⟩],rfl,rangeAt_new w [.bool false, .slice none 0 0, .bool false, .slice none 0 0, .bool false, .slice none 0 0] 66,there_new w _ 66 6 (by simp),fun i hi hi'=>?_⟩,by simp⟩
 have:i=0∨i=1∨i=2:=by simp at hi;omega
 have z:∀ w' B,WcR w' B ⟨false,none,0,0⟩ 0:=fun w' B=>⟨rfl,by rw[show (0:Int).natAbs=0 from rfl,canon_zero];exact Lim.nil _,fun b off e=>by cases e⟩
 rcases this with rfl|rfl|rfl <;> exact z _ _
structure Mat (w:World) (g0:Nat) (X Y:Value) (M:Nat→List Int):Prop where
 row:w.rangeAt g0 0 [X,Y]
 lt:g0<w.heap.size
 x:RowF w 0 X ((M 0).map fun z:Int=>((z:Int):Rat))
 y:RowF w 0 Y ((M 1).map fun z:Int=>((z:Int):Rat))
 len:∀ i,(M i).length=3
 lim:∀ i,∀ z∈M i,(canon z.natAbs).length≤900
theorem Mat.below {w w':World} {g0:Nat} {X Y:Value} {M:Nat→List Int} (h:Mat w g0 X Y M) (hb:Below w.heap.size w w'):Mat w' g0 X Y M :=
 ⟨rangeAt_below h.row hb h.lt,Nat.lt_of_lt_of_le h.lt hb.size,h.x.below hb,h.y.below hb,h.len,h.lim⟩
theorem Mat.at {w:World} {g0:Nat} {X Y:Value} {M:Nat→List Int} (h:Mat w g0 X Y M) {i:Nat} (hi:i<2):∃ g cap,w.cell? ⟨g0,i,none⟩=some (.slice (some ⟨g,0,none⟩) 3 cap) ∧
  ∀ j,(hj:j<(M i).length) → ∃ f:Fc,∀ w',Below w.heap.size w w'→w'.cell? ⟨g,j*4,none⟩=some (.bool f.s)∧w'.cell? ⟨g,j*4+1,none⟩=some (.slice f.a f.k f.c)∧w'.cell? ⟨g,j*4+2,none⟩=some (.bool false)∧w'.cell? ⟨g,j*4+3,none⟩=some (.slice f.a' f.k' f.c')∧f.s=decide ((M i)[j]<0)∧Lim w' f.a f.k f.c (canon (M i)[j].natAbs)∧Lim w' f.a' f.k' f.c' (canon 1):=by
 have key:∀ V,RowF w 0 V ((M i).map fun z:Int=>((z:Int):Rat))→w.cell? ⟨g0,i,none⟩=some V → ∃ g cap,w.cell? ⟨g0,i,none⟩=some (.slice (some ⟨g,0,none⟩) 3 cap) ∧
  ∀ j,(hj:j<(M i).length) → ∃ f:Fc,∀ w',Below w.heap.size w w'→w'.cell? ⟨g,j*4,none⟩=some (.bool f.s)∧w'.cell? ⟨g,j*4+1,none⟩=some (.slice f.a f.k f.c)∧w'.cell? ⟨g,j*4+2,none⟩=some (.bool false)∧w'.cell? ⟨g,j*4+3,none⟩=some (.slice f.a' f.k' f.c')∧f.s=decide ((M i)[j]<0)∧Lim w' f.a f.k f.c (canon (M i)[j].natAbs)∧Lim w' f.a' f.k' f.c' (canon 1):=by
  intro V hV hc
  have l3:=h.len i
  obtain⟨g,cap,x,e, -⟩:=hV.elem (j:=0) (by simp;omega)
  rw[List.length_map,l3] at e
  refine⟨g,cap,by rw[hc,e],fun j hj=>?_⟩
  obtain⟨g',cap',f,e',lt,r,hf⟩:=hV.elem (j:=j) (by simpa using hj)
  rw[e,List.length_map,l3] at e'
  cases e'
  have hr:((M i).map fun z:Int=>((z:Int):Rat))[j]'(by simpa using hj)=(((M i)[j]:Int):Rat):=by rw[List.getElem_map]
  rw[hr] at hf
  have hn:=hf.n
  have hd:=hf.d
  have hs:=hf.s
  rw[Rat.num_intCast] at hn hs
  rw[Rat.den_intCast] at hd
  refine⟨f,fun w' hb=>?_⟩
  have q:=fun k v hv=>(hb.cell (p:=⟨g,j*4+k,none⟩) lt).trans (r k v hv)
  exact⟨q 0 _ rfl,q 1 _ rfl,q 2 _ rfl,q 3 _ rfl,hs,hn.below hb,hd.below hb⟩
 rcases(show i=0∨i=1 by omega) with rfl|rfl
 ·exact key X h.x (h.row 0 _ rfl)
 ·exact key Y h.y (h.row 1 _ rfl)
theorem OwnG.lt {α:Type} {E:TypeId} {k:Nat} {enc:α→List Value} {w:World} {B:Nat} {v:Value} {l:List α} (h:OwnG E k enc w B v l):∀ g,v.ownBlock=some g→B≤g∧g<w.heap.size:=h.1.lt
theorem OwnG.kept3 {α β:Type} {E1 E2:TypeId} {k1 k2:Nat} {enc1:α→List Value} {enc2:β→List Value} {w w':World} {B1 B2:Nat} {v1 v2:Value} {l1:List α} {l2:List β} (h1:OwnG E1 k1 enc1 w B1 v1 l1) (h2:OwnG E2 k2 enc2 w B2 v2 l2) (hne:E1≠E2) (hg:w.grownBy w' v2.ownBlock):OwnG E1 k1 enc1 w' B1 v1 l1:=by
 refine⟨h1.1.kept hg ?_,Nat.le_trans h1.2 hg.size⟩
 rcases h1.1.2 with⟨rfl,_⟩|⟨g,cap,cur,rfl,_,hh,_⟩
 ·exact .inl rfl
 ·right
  intro e
  rcases h2.1.2 with⟨rfl,_⟩|⟨g2,cap2,cur2,rfl,_,hh2,_⟩
  ·simp[Value.ownBlock] at e
  ·obtain rfl:g=g2:=by simpa [Value.ownBlock] using e
   rw[hh] at hh2
   cases hh2
   exact hne rfl
section
variable {α : Type} {E : TypeId} {k : Nat} {enc : α → List Value}
theorem step_appB {P:Program} {T:TypeId} {z:Value} {bytes:Nat} (hu:P.underlying T=some (.slice E)) (hin:(P.info? E).map (fun i=>(i.zero,i.size,i.bytes))=some (some z,k,bytes)) (hz:z.cells.size=k) (h0:0<k) (hby:bytes≤1000)
  (hk:∀ x,(enc x).length=k) (h1:∀ x,∀ u∈enc x,u.oneCell'=true)
  {ops:Array Oper} {o:Oper} {a:Act} {K:Act→World→Prop} {Q:Exit→Act→World→Prop} {X:Prop} (w:World) (hgd:o.guard=none) (s x:Operand)
  (ho:o.op = .call { callee:=.builtin .append,args:=#[s,x],argTypes:=#[T,T] })
  (B:Nat) (v:Value) (l:List α) (q:α) (b:Nat) (hs:a.eval s=v) (hx:a.eval x = .slice (some ⟨b,0,none⟩) 1 1) (hown:OwnG E k enc w B v l) (hb:w.rangeAt b 0 (enc q)) (hl:l.length≤1000000)
  (h:∀ v' w',OwnG E k enc w' B v' (l ++ [q])→w.grownBy w' v.ownBlock→(v'.ownBlock=v.ownBlock∨v'.ownBlock=some w.heap.size)→Below B w w'→K (a.put o.dst v') w') :
  if Region.wanted o (yielded ops a.tmps)=true then Oper.wp P o a w K Q else X:=by
 have hw:Region.wanted o (yielded ops a.tmps)=true:=by simp[Region.wanted,hgd]
 rw[if_pos hw]
 obtain⟨i0,hi,hz0,hz1,hz2⟩:=info_parts hin
 obtain⟨v',w',hr,g1,g2,g3,g4⟩:=run_append_own_at (P:=P) w B T o.type E i0 z k bytes hu hi hz0 hz1 hz2 hz h0 v l.length (l.flatMap enc) hown.1 ⟨b,0,none⟩ 1 1 (enc q) (by rw[hk,Nat.one_mul]) (newsG hb) (h1 q) (by unfold maxLen;omega)
  (Nat.le_trans (Nat.mul_le_mul (show l.length+1≤1000001 by omega) hby) (by decide)) hown.2
 unfold Oper.wp execOp
 simp only[ho,resolve,invoke,builtin,Sem.run_bind,Sem.run_pure,Result.andThen_ok,List.map_toArray,List.map_cons,List.map_nil,hs,hx,hr]
 have e:(l ++ [q]).flatMap enc=l.flatMap enc++enc q:=by simp
 have hb:Below B w w':=(Below.refl B _).grown g2 hown.2 (fun k hk=>(hown.1.lt k hk).1)
 show K (a.put o.dst v') w'
 refine h v' w' ⟨?_,Nat.le_trans hown.2 hb.size⟩ g2 g4 hb
 rw[e,List.length_append]
 exact g1
end
def One (w:World) (a:Option Addr) (k c:Nat):Prop:=Lim w a k c (canon 1)
theorem canon_one:(canon 1).length=1:=by decide +kernel
theorem One.below {w w':World} {a:Option Addr} {k c:Nat} (h:One w a k c) (hb:Below w.heap.size w w'):One w' a k c:=Lim.below h hb
theorem One.lt {w:World} {a:Option Addr} {k c:Nat} (h:One w a k c) {b off:Nat} (e:a=some ⟨b,off,none⟩):b<w.heap.size:=Lim.lt h (by have:=h.len;rw[canon_one] at this;omega) e
def ZPost (w:World) (z:Int) (e:Ending) (w':World):Prop:=∃ a k c,e = .returned (.agg #[.bool (decide (z<0)), .slice a k c])∧Lim w' a k c (canon z.natAbs)∧(∀ b off,a=some ⟨b,off,none⟩→w.heap.size≤b)∧Below w.heap.size w w'
def OPost (w:World) (e:Ending) (w':World):Prop:=∃ a k c,e = .returned (.agg #[.bool false, .slice a k c])∧One w' a k c∧(∀ b off,a=some ⟨b,off,none⟩→w.heap.size≤b)∧Below w.heap.size w w'
theorem from_one (w:World):Calls Tryz.prog 87 #[.int .i64 1] w (OPost w):=by
 refine(from_walk 1 w (by decide) (by decide)).mono ?_
 rintro e w' ⟨V,rfl,⟨a,k,c,rfl,h,g⟩,hb⟩
 exact⟨a,k,c,rfl,h,g,hb⟩
theorem one_wide {w:World} {a:Option Addr} {k c:Nat} (h:One w a k c):Wide 0 w (.agg #[.bool false, .slice a k c]) 1:=⟨a,k,c,rfl,h,fun _ _ _=>Nat.zero_le _⟩
theorem gcd_one {w:World} {a a':Option Addr} {k c k' c':Nat} (h:One w a k c) (h':One w a' k' c'):Calls Tryz.prog 192 #[.agg #[.bool false, .slice a k c], .agg #[.bool false, .slice a' k' c']] w
  fun e w'=>∃ a k c,e = .returned (.tuple #[.agg #[.bool false, .slice a k c], .int .i64 0])∧One w' a k c∧(∀ b off,a=some ⟨b,off,none⟩→w.heap.size≤b)∧Below w.heap.size w w':=by
 refine(gcd_any _ _ 1 1 w (one_wide h) (one_wide h') (by show (canon 1).length≤_;rw[canon_one];decide) (by show (canon 1).length≤_;rw[canon_one];decide)).mono ?_
 rintro e w' ⟨V,rfl,⟨a,k,c,rfl,h,g⟩,hb⟩
 exact⟨a,k,c,rfl,h,g,hb⟩
theorem div_one {w:World} {a a':Option Addr} {k c k' c':Nat} (h:One w a k c) (h':One w a' k' c'):Calls Tryz.prog 205 #[.agg #[.bool false, .slice a k c], .agg #[.bool false, .slice a' k' c']] w (OPost w):=by
 refine(ldiv_any _ _ 1 1 w (one_wide h) (one_wide h') (by decide) (by show (canon 1).length≤_;rw[canon_one];decide) (by rw[canon_one];decide)).mono ?_
 rintro e w' ⟨V,rfl,⟨a,k,c,rfl,h,g⟩,hb⟩
 exact⟨a,k,c,rfl,h,g,hb⟩
theorem mul_one_ {w:World} {a a':Option Addr} {k c k' c':Nat} {z:Int} (h:Lim w a k c (canon z.natAbs)) (h':One w a' k' c') (hl:(canon z.natAbs).length≤1000):Calls Tryz.prog 204 #[.agg #[.bool (decide (z<0)), .slice a k c], .agg #[.bool false, .slice a' k' c']] w (ZPost w z):=by
 refine(lmul_any _ _ z 1 w (wide0 h) (one_wide h') (by show _+(canon 1).length≤_;rw[canon_one];omega)).mono ?_
 rintro e w' ⟨V,rfl,h,hb⟩
 rw[Int.mul_one] at h
 obtain⟨a,k,c,rfl,h,g⟩:=h
 exact⟨a,k,c,rfl,h,g,hb⟩
theorem mul_ones {w:World} {a a':Option Addr} {k c k' c':Nat} (h:One w a k c) (h':One w a' k' c'):Calls Tryz.prog 204 #[.agg #[.bool false, .slice a k c], .agg #[.bool false, .slice a' k' c']] w (OPost w) :=
 mul_one_ (z:=1) h h' (by show (canon 1).length≤_;rw[canon_one];decide)
def Den1 (W:World) (bd:Nat) (wr:World):Prop:=∃ a k c,Fr W [(bd,wdV false a k c)] wr∧One wr a k c ∧ ∀ b off,a=some ⟨b,off,none⟩→b≠bd
abbrev GL (w:World) (V1 V2:Value):List (Nat×List Value):=[(w.heap.size+1,[V1,V2]),(w.heap.size,[.slice none 0 0, .slice none 0 0])]
abbrev hdr (r:Nat):Sl:=⟨some ⟨r,0,none⟩,3,3⟩
abbrev OwnS (w:World) (B:Nat) (v:Value) (l:List Sl):Prop:=OwnG 222 1 slE w B v l
abbrev OwnW (w:World) (B:Nat) (v:Value) (l:List Wc):Prop:=OwnG 66 2 wcE w B v l
def GSt (w:World) (M:Nat→List Int) (i:Nat) (wr:World):Prop:=∃ V1 V2,Fr w (GL w V1 V2) wr ∧
 ((i=0∧V1 = .slice none 0 0∧V2 = .slice none 0 0) ∨
  (i=1 ∧ ∃ r0 W0 l,RowW W0 r0 (M 0)∧w.heap.size+2≤r0∧W0.heap.size≤wr.heap.size∧(∀ b,r0≤b→b<W0.heap.size→wr.heap[b]? = W0.heap[b]?)∧OwnS wr W0.heap.size V1 [hdr r0]∧OwnW wr W0.heap.size V2 l∧l.length=1) ∨
  (i=2 ∧ ∃ r0 r1 W0 l,RowW W0 r0 (M 0)∧w.heap.size+2≤r0∧W0.heap.size≤wr.heap.size∧(∀ b,r0≤b→b<W0.heap.size→wr.heap[b]? = W0.heap[b]?)∧OwnS wr W0.heap.size V1 [hdr r0,hdr r1]∧OwnW wr W0.heap.size V2 l∧W0.heap.size≤r1∧RowW wr r1 (M 1)∧V1.ownBlock≠some r1))
theorem GSt.opened {w:World} {M:Nat→List Int} {i:Nat} {wr:World} (h:GSt w M i wr) (hi:i<2):∃ V1 V2 H L,H.length≤1∧L.length≤1∧Fr w (GL w V1 V2) wr∧(∀ g,V1.ownBlock=some g→g<wr.heap.size)∧(∀ g,V2.ownBlock=some g→g<wr.heap.size)∧w.heap.size+2≤wr.heap.size ∧
  ∀ wd r,Below wr.heap.size wr wd→RowW wd r (M i)→wr.heap.size≤r → ∃ B,w.heap.size+2≤B∧B≤wd.heap.size∧OwnS wd B V1 H∧OwnW wd B V2 L ∧
   ∀ w9 v1 v2 q,Below B wd w9→RowW w9 r (M i)→OwnS w9 B v1 (H ++ [hdr r])→OwnW w9 B v2 (L ++ [q])→v1.ownBlock≠some r→GSt w M (i+1) ((w9.setCell ⟨w.heap.size+1,0,none⟩ v1).setCell ⟨w.heap.size+1,1,none⟩ v2):=by
 obtain⟨V1,V2,hF,hc⟩:=h
 have lo:w.heap.size+2≤wr.heap.size:=by have:=(hF.least 0 rfl).2;omega
 have lb:∀ V1 V2,∀ q∈GL w V1 V2,q.1<w.heap.size+2:=fun V1 V2 q hq=>by
  simp only[List.mem_cons,List.not_mem_nil,or_false] at hq
  rcases hq with rfl|rfl <;> simp only <;> omega
 have ho:∀ w' v1 v2 b,w.heap.size+2≤b→((World.setCell w' ⟨w.heap.size+1,0,none⟩ v1).setCell ⟨w.heap.size+1,1,none⟩ v2).heap[b]? = w'.heap[b]?:=fun w' v1 v2 b h=>by rw[heap_other (by omega),heap_other (by omega)]
 have hz:∀ w' v1 v2,((World.setCell w' ⟨w.heap.size+1,0,none⟩ v1).setCell ⟨w.heap.size+1,1,none⟩ v2).heap.size=w'.heap.size:=fun w' v1 v2=>by simp
 have fin:∀ B wd w9 v1 v2,Fr w (GL w V1 V2) wd→Below B wd w9→w.heap.size+2≤B→Fr w (GL w v1 v2) ((w9.setCell ⟨w.heap.size+1,0,none⟩ v1).setCell ⟨w.heap.size+1,1,none⟩ v2):=fun B wd w9 v1 v2 hF hb hB =>
  ((Fr.lower hF hb (by omega) (fun q hq=>Nat.lt_of_lt_of_le (lb _ _ q hq) hB)).put1 0 rfl 0 v1 (by simp)).put1 0 rfl 1 v2 (by simp)
 rcases hc with⟨rfl,rfl,rfl⟩|⟨rfl,r0,W0,l,h1,h2,h3,h4,h5,h6,h7⟩|⟨rfl, -⟩
 ·refine⟨_,_,[],[],by simp,by simp,hF,(fun g q=>by cases q),(fun g q=>by cases q),lo,fun wd r hb hr hw=>⟨wd.heap.size,Nat.le_trans lo hb.size,Nat.le_refl _,OwnG.nil _ _ (Nat.le_refl _),OwnG.nil _ _ (Nat.le_refl _),?_⟩⟩
  intro w9 v1 v2 q hb9 hr9 o1 o2 hne
  refine⟨v1,v2,fin _ wd w9 v1 v2 (hF.call hb) hb9 (Nat.le_trans lo hb.size),Or.inr (Or.inl ⟨rfl,r,wd,[] ++ [q],hr,Nat.le_trans lo hw,by rw[hz];exact hb9.size,fun b g1 g2=>(ho _ _ _ b (by omega)).trans (hb9.block b g2),?_,?_,rfl⟩)⟩
  ·exact OwnG.kept2 o1 (by rw[hz];exact Nat.le_refl _) (fun b g1 g2=>ho _ _ _ b (by have:=hb.size;omega))
  ·exact OwnG.kept2 o2 (by rw[hz];exact Nat.le_refl _) (fun b g1 g2=>ho _ _ _ b (by have:=hb.size;omega))
 ·refine⟨V1,V2,[hdr r0],l,by simp,by omega,hF,fun g q=>(OwnG.lt h5 g q).2,fun g q=>(OwnG.lt h6 g q).2,lo,fun wd r hb hr hw=>⟨W0.heap.size,by have:=h1.lt;omega,Nat.le_trans h3 hb.size,OwnG.below h5 hb,OwnG.below h6 hb,?_⟩⟩
  have l0:=h1.lt
  intro w9 v1 v2 q hb9 hr9 o1 o2 hne
  refine⟨v1,v2,fin _ wd w9 v1 v2 (hF.call hb) hb9 (by omega),Or.inr (Or.inr ⟨rfl,r0,r,W0,l ++ [q],h1,h2,by rw[hz];exact Nat.le_trans h3 (Nat.le_trans hb.size hb9.size),fun b g1 g2=>(ho _ _ _ b (by omega)).trans ((hb9.block b g2).trans ((hb.block b (by omega)).trans (h4 b g1 g2))),?_,?_,by omega,?_,hne⟩)⟩
  ·exact OwnG.kept2 o1 (by rw[hz];exact Nat.le_refl _) (fun b g1 g2=>ho _ _ _ b (by omega))
  ·exact OwnG.kept2 o2 (by rw[hz];exact Nat.le_refl _) (fun b g1 g2=>ho _ _ _ b (by omega))
  ·exact hr9.kept (by rw[hz];exact Nat.le_refl _) (fun b g1 g2=>ho _ _ _ b (by omega))
 ·omega
structure T18 (w:World) (B bd r:Nat) (V1 V2:Value) (a:Option Addr) (k c:Nat) (z:List Int) (wd wc:World):Prop where
 fr:Fr w (GL w V1 V2) wc
 row:RowW wc r z
 den:wc.rangeAt bd 0 (wdV false a k c)
 bel:Below B wd wc
theorem T18.alloc {w:World} {B bd r:Nat} {V1 V2:Value} {a:Option Addr} {k c:Nat} {z:List Int} {wd wc:World} (h:T18 w B bd r V1 V2 a k c z wd wc) (hB:B≤wd.heap.size) (hbd:bd<wd.heap.size) (o:Obj):T18 w B bd r V1 V2 a k c z wd (wc.alloc o) :=
 have ba:=(Below.refl _ wc).alloc (Nat.le_refl _) o
 ⟨h.fr.call ba,h.row.below ba,rangeAt_below h.den ba (Nat.lt_of_lt_of_le hbd h.bel.size),h.bel.alloc (Nat.le_trans hB h.bel.size) _⟩
theorem T18.grown {w:World} {B bd r:Nat} {V1 V2:Value} {a:Option Addr} {k c:Nat} {z:List Int} {wd wc w':World} (h:T18 w B bd r V1 V2 a k c z wd wc) (hw:w.heap.size+2≤B) (hbd:bd<wd.heap.size) {row:Option Nat} (hr:∀ g,row=some g→g<bd∧g<r) (hg:wc.grownBy w' row) (hb:Below B wc w'):T18 w B bd r V1 V2 a k c z wd w' :=
 ⟨Fr.lower h.fr hb (by omega) (fun q hq=>by
   simp only[List.mem_cons,List.not_mem_nil,or_false] at hq
   rcases hq with rfl|rfl <;> simp only <;> omega),
  h.row.kept hg.size (fun b g1 g2=>hg.block b g2 (fun e=>by have:=(hr b e.symm).2;omega)),
  fun j v hv=>(World.cell?_of_block (a:=⟨bd,0+j,none⟩) (hg.block bd (Nat.lt_of_lt_of_le hbd h.bel.size) (fun e=>by have:=(hr bd e.symm).1;omega))).trans (h.den j v hv),
  h.bel.trans hb⟩
structure Bu (lo b:Nat) (vs:List Value) (w:World):Prop where
 row:w.rangeAt b 0 vs
 lo:lo≤b
 lt:b<w.heap.size
theorem Bu.mk' (w:World) (lo:Nat) (h:lo≤w.heap.size) (vs:List Value) (t:TypeId):Bu lo w.heap.size vs (w.alloc (.cells vs.toArray t)):=⟨rangeAt_new w vs t,h,by simp⟩
theorem Bu.alloc {lo b:Nat} {vs:List Value} {w:World} (h:Bu lo b vs w) (o:Obj):Bu lo b vs (w.alloc o) :=
 ⟨rangeAt_below h.row ((Below.refl _ w).alloc (Nat.le_refl _) o) h.lt,h.lo,Nat.lt_of_lt_of_le h.lt (by simp)⟩
theorem Bu.grown {lo b:Nat} {vs:List Value} {w w':World} (h:Bu lo b vs w) {row:Option Nat} (hr:∀ g,row=some g→g<lo) (hg:w.grownBy w' row):Bu lo b vs w' :=
 ⟨fun j v hv=>(World.cell?_of_block (a:=⟨b,0+j,none⟩) (hg.block b h.lt (fun e=>by have:=hr b e.symm;have:=h.lo;omega))).trans (h.row j v hv),h.lo,Nat.lt_of_lt_of_le h.lt hg.size⟩
theorem ne_w:(222:TypeId)≠66:=by decide
theorem own_cap {α:Type} {E:TypeId} {k:Nat} {enc:α→List Value} {w:World} {B n c:Nat} {A:Option Addr} {l:List α} (h:OwnG E k enc w B (.slice A n c) l):l.length≤c∧c≤maxLen:=by
 rcases h.1.2 with⟨e,e2⟩|⟨g,cap,cur,e, -, -,h1,h2, -⟩
 ·rw[e2];cases e;exact⟨Nat.le_refl _,Nat.zero_le _⟩
 ·cases e;exact⟨h1,h2⟩
def WholePost (M:Nat→List Int) (w:World) (e:Ending) (w':World):Prop:=∃ g c A2 n2 c2 r0 r1 W0,e = .returned (.agg #[.slice (some ⟨g,0,none⟩) 2 c, .slice A2 n2 c2])∧2≤c∧c≤maxLen∧W0.heap.size≤g∧g<w'.heap.size∧w'.rangeAt g 0 [.slice (some ⟨r0,0,none⟩) 3 3, .slice (some ⟨r1,0,none⟩) 3 3] ∧
 RowW W0 r0 (M 0)∧w.heap.size≤r0∧W0.heap.size≤r1∧W0.heap.size≤w'.heap.size∧(∀ b,r0≤b→b<W0.heap.size→w'.heap[b]? = W0.heap[b]?)∧RowW w' r1 (M 1)∧g≠r1∧Below w.heap.size w w'
theorem info_gr:(Tryz.prog.info? 224).map (·.size)=some 2:=by kernel_rfl
theorem GSt.post {w:World} {M:Nat→List Int} {wr:World} (h:GSt w M 2 wr):∃ g c A2 n2 c2,Fr w (GL w (.slice (some ⟨g,0,none⟩) 2 c) (.slice A2 n2 c2)) wr∧WholePost M w (.returned (.agg #[.slice (some ⟨g,0,none⟩) 2 c, .slice A2 n2 c2])) (wr.setCells w.heap.size 0 [.slice (some ⟨g,0,none⟩) 2 c, .slice A2 n2 c2]):=by
 obtain⟨V1,V2,hF,hc⟩:=h
 rcases hc with⟨q, -⟩|⟨q, -⟩|⟨-,r0,r1,W0,l,h1,h2,h3,h4,h5,h6,h7,h8,h9⟩
 ·omega
 ·omega
 ·obtain⟨A1,c1,rfl,hr,hg⟩:=OwnG.form (k:=1) (enc:=slE) (fun _=>rfl) h5
  obtain⟨A2,c2,rfl, -, -⟩:=OwnG.form (k:=2) (enc:=wcE) (fun _=>rfl) h6
  have hcap:=own_cap h5
  obtain⟨g,e,lt,k0⟩:=hr.row 0 (by simp)
  obtain⟨g',e', -,k1⟩:=hr.row 1 (by simp)
  subst e
  cases e'
  have l0:=h1.lt
  have lg:=hg g 0 rfl
  have ho:∀ (p:Value×Value) b,w.heap.size+2≤b→b<wr.heap.size→(wr.setCells w.heap.size 0 [p.1,p.2]).heap[b]? = wr.heap[b]?:=fun p b hb _=>(by show ((wr.setCell ⟨w.heap.size,0,none⟩ p.1).setCell ⟨w.heap.size,0+1,none⟩ p.2).heap[b]? = _;rw[heap_other (by omega),heap_other (by omega)])
  have hz:∀ vs,(wr.setCells w.heap.size 0 vs).heap.size=wr.heap.size:=fun vs=>sizes _ _ _ _
  refine⟨g,c1,A2,l.length,c2,hF,g,c1,A2,l.length,c2,r0,r1,W0,rfl,hcap.1,hcap.2,lg,by rw[hz];exact lt,fun j v hv=>?_,h1,by omega,h7,by rw[hz];exact h3,fun b g1 g2=>(ho (_,_) b (by omega) (by omega)).trans (h4 b g1 g2),h8.kept (by rw[hz];exact Nat.le_refl _) (fun b g1 g2=>ho (_,_) b (by omega) g2),fun q=>h9 (by rw[q];rfl),below_setCells w.heap.size (Nat.le_refl _) _ 0 _ hF.below⟩
  rw[World.cell?_of_block (a:=⟨g,0+j,none⟩) (ho (_,_) g (by omega) lt)]
  match j,hv with
  | 0,hv=>cases hv;exact k0 0 _ rfl
  | 1,hv=>cases hv;exact k1 0 _ rfl
end Wd
end Go.Proofs.YtdnogmanbdgadaaGreatDoor
