/-
  Lemmas and walks, texts joined: WQPl, WDown, TKItr, TKPrs, TKPt, ShelfK.
-/
import Derived.RangeFuncNested
import Derived.RangeFuncBound
import Derived.RangeFuncCalls
import Derived.RangeFuncLeaves
import Derived.RangeFuncBox
import Derived.Shelf.Abstract
import Derived.Shelf.RegionOpen
import Derived.OwnWalkIn
import Derived.TacticsInMore
import Derived.LoopNIn
import Derived.LoopIn
import Derived.Shelf.SlicesQ.Contains
import Derived.Shelf.SlicesQ.IndexFunc
import Derived.Shelf.SlSortCmp.Whole1
import Derived.Shelf.Spec.TrailingZeros
import Derived.Test.YtdnogmanbdgadaaGreatDoorTb13
import Derived.Test.YtdnogmanbdgadaaGreatDoorTb10
import Derived.Test.YtdnogmanbdgadaaGreatDoorTb11
import Derived.Test.YtdnogmanbdgadaaGreatDoorTb04
import Derived.Test.YtdnogmanbdgadaaGreatDoorProg
set_option linter.unusedSimpArgs false
set_option linter.unusedVariables false
set_option maxRecDepth 100000
set_option maxHeartbeats 40000000
namespace Go.Proofs.YtdnogmanbdgadaaGreatDoor
namespace Wd

theorem guess_ge {u v:List Nat} {n:Nat} (hn:0<n) (hu:u.length=n+1) (hv:v.length=n) (lu:Lb u) (lv:Lb v) (hy:0<v[n-1]):val u/val v≤(u[n]*4294967296+u[n-1])/v[n-1]:=by
 have e1:=val_drop_div lu (i:=n-1) (by omega)
 have e2:=val_drop (l:=u) (i:=n-1) (by omega)
 have e3:=val_drop (l:=u) (i:=n-1+1) (by omega)
 rw[List.drop_of_length_le (show u.length≤n-1+1+1 by omega)] at e3
 have e4:=val_split' (l:=v) (i:=n-1) (by omega)
 have e5:=val_drop (l:=v) (i:=n-1) (by omega)
 rw[List.drop_of_length_le (show v.length≤n-1+1 by omega)] at e5
 have en:u[n-1+1]'(by omega)=u[n]:=by congr 1;omega
 rw[en] at e3
 simp only[val] at e3 e5
 generalize u[n]=un at *
 generalize u[n-1]=um at *
 generalize v[n-1]=vm at *
 have hP:0<4294967296 ^ (n-1):=Nat.pow_pos (by decide)
 have h1:4294967296 ^ (n-1)*vm≤val v:=by rw[e4,e5];simp only[Nat.mul_zero,Nat.add_zero];omega
 have h2:un*4294967296+um=val u/4294967296 ^ (n-1):=by rw[← e1,e2,e3];omega
 rw[h2,Nat.div_div_eq_div_mul]
 exact Nat.div_le_div_left h1 (Nat.mul_pos hP hy)
theorem digit_lt {U V:Nat} (h:U<V*4294967296):U/V<4294967296:=by
 rcases Nat.eq_zero_or_pos V with rfl|hp
 ·simp
 ·rw[Nat.div_lt_iff_lt_mul hp,Nat.mul_comm];exact h
theorem le_quo {q U V:Nat} (hV:0<V):q*V≤U↔q≤U/V:=(Nat.le_div_iff_mul_le hV).symm
theorem quo_fin {q U V R:Nat} (hV:0<V) (hq:U/V≤q) (h:R+q*V=U):q=U/V∧R=U % V:=by
 have h1:q≤U/V:=(le_quo hV).1 (by omega)
 have h2:q=U/V:=by omega
 refine⟨h2,?_⟩
 have:=Nat.div_add_mod U V
 rw[← h2,Nat.mul_comm] at this
 omega
def win (u:List Nat) (j n:Nat):List Nat:=(u.drop j).take (n+1)
def put (u:List Nat) (j n:Nat) (r:List Nat):List Nat:=u.take j++(r++u.drop (j+n+1))
theorem win_len {u:List Nat} {j n:Nat} (h:j+n+1≤u.length):(win u j n).length=n+1:=by simp[win];omega
theorem put_len {u r:List Nat} {j n:Nat} (h:j+n+1≤u.length) (hr:r.length=n+1):(put u j n r).length=u.length:=by simp[put];omega
theorem lb_win {u:List Nat} (h:Lb u) (j n:Nat):Lb (win u j n):=lb_take (lb_drop h _) _
theorem lb_app {a b:List Nat} (ha:Lb a) (hb:Lb b):Lb (a++b):=fun x hx=>(List.mem_append.1 hx).elim (ha x) (hb x)
theorem lb_put {u r:List Nat} (h:Lb u) (hr:Lb r) (j n:Nat):Lb (put u j n r):=lb_app (lb_take h _) (lb_app hr (lb_drop h _))
structure QIn (U V:Nat) (u q:List Nat) (n m j:Nat):Prop where
 lu:u.length=n+m
 lq:q.length=m
 bu:Lb u
 bq:Lb q
 v:val (q.drop j)*4294967296 ^ j*V+val u=U
 t:val (u.drop j)<V
theorem QIn.zero {u:List Nat} {V n m:Nat} (lu:u.length=n+m) (bu:Lb u) (ht:val u<V*4294967296 ^ m):QIn (val u) V u (List.replicate m 0) n m m :=
 ⟨lu,by simp,bu,lb_zeros _,by rw[List.drop_of_length_le (by simp)];simp[val],by rw[val_drop_div bu (by omega),Nat.div_lt_iff_lt_mul (Nat.pow_pos (by decide))];exact ht⟩
theorem QIn.high {U V:Nat} {u q:List Nat} {n m j:Nat} (h:QIn U V u q n m (j+1)) (hj:j<m) (hV:V<4294967296 ^ n) :
  j+n+1≤u.length∧val (win u j n)=val (u.drop j)∧val (u.drop (j+n+1))=0∧val (win u j n)<V*4294967296:=by
 have hl:=h.lu
 have ht:=h.t
 have e1:=val_drop (l:=u) (i:=j) (by omega)
 have hx:=lb_get h.bu (show j<u.length by omega)
 have hlt:val (u.drop j)<V*4294967296:=by
  have:(val (u.drop (j+1))+1)*4294967296≤V*4294967296:=Nat.mul_le_mul_right _ ht
  omega
 have hpow:V*4294967296≤4294967296 ^ (n+1):=by rw[Nat.pow_succ];exact Nat.mul_le_mul_right _ (by omega)
 have e2:val (win u j n)=val (u.drop j):=by
  rw[win,val_take_mod (lb_drop h.bu _) (by simp;omega),Nat.mod_eq_of_lt (by omega)]
 have e3:val (u.drop (j+n+1))=0:=by
  have:u.drop (j+n+1)=(u.drop j).drop (n+1):=by rw[List.drop_drop];rfl
  rw[this,val_drop_div (lb_drop h.bu _) (by simp;omega),Nat.div_eq_of_lt (by omega)]
 exact⟨by omega,e2,e3,by rw[e2];exact hlt⟩
theorem QIn.step {U V:Nat} {u q r:List Nat} {n m j:Nat} (h:QIn U V u q n m (j+1)) (hj:j<m) (hV:V<4294967296 ^ n) (hV0:0<V) (hr:r.length=n+1) (br:Lb r) (er:val r=val (win u j n) % V) :
  QIn U V (put u j n r) (q.set j (val (win u j n)/V)) n m j:=by
 obtain⟨h1,h2,h3,h4⟩:=h.high hj hV
 have hl:=h.lu
 have hq:=h.lq
 have hv:=h.v
 have e1:(put u j n r).drop j=r++u.drop (j+n+1):=by rw[put,List.drop_left' (by simp;omega)]
 have e2:val ((put u j n r).drop j)=val r:=by rw[e1,val_append,h3];simp
 refine⟨by rw[put_len h1 hr,hl],by simpa using hq,lb_put h.bu br _ _,lb_set h.bq _ _ (digit_lt h4),?_,by rw[e2,er];exact Nat.mod_lt _ hV0⟩
 rw[val_drop_set _ (by omega)]
 have e3:val (put u j n r)=val (u.take j)+4294967296 ^ j*val r:=by
  have:=val_split' (l:=put u j n r) (i:=j) (by rw[put_len h1 hr];omega)
  rw[e2] at this
  rw[this]
  congr 2
  rw[put,List.take_left' (by simp;omega)]
 have e4:=val_split' (l:=u) (i:=j) (by omega)
 rw[e3,er,h2]
 have e5:=Nat.div_add_mod (val (u.drop j)) V
 rw[← hv,e4,Nat.pow_succ]
 generalize val (u.drop j)=X at *
 generalize val (q.drop (j+1))=Q at *
 generalize 4294967296 ^ j=P at *
 have e6:=congrArg (P * ·) e5
 simp only[Nat.mul_add] at e6
 rw[← e6,Nat.add_mul,Nat.add_mul]
 have e7:X/V*P*V=P*(V*(X/V)):=by rw[Nat.mul_assoc,Nat.mul_left_comm,Nat.mul_comm V]
 have e8:4294967296*Q*P*V=Q*(P*4294967296)*V:=by rw[Nat.mul_comm 4294967296 Q,Nat.mul_assoc Q,Nat.mul_comm 4294967296 P]
 rw[e7,e8]
 omega
theorem QIn.fin {U V:Nat} {u q:List Nat} {n m:Nat} (h:QIn U V u q n m 0):val q=U/V∧val u=U % V:=by
 have hv:=h.v
 have ht:=h.t
 simp only[List.drop_zero,Nat.pow_zero,Nat.mul_one] at hv ht
 rw[← hv]
 constructor
 ·rw[Nat.mul_comm,Nat.mul_add_div (by omega),Nat.div_eq_of_lt ht];rfl
 ·rw[Nat.mul_comm,Nat.mul_add_mod,Nat.mod_eq_of_lt ht]
structure Norm (b v:List Nat) (s n:Nat):Prop where
 len:v.length=n
 lb:Lb v
 e:val v=val b*2 ^ s
 s1:s≤31
 n1:0<n
 top:∀ h:n-1<v.length,2147483648≤v[n-1]
theorem Norm.of {b L:List Nat} {s n:Nat} (hb:Lb b) (hlen:b.length=n) (hn:0<n) (hs:s≤31) (hL:L.length=n+1) (bL:Lb L) (hv:val L=val b*2 ^ s) (h1:∀ h:n-1<b.length,2147483648≤b[n-1]*2 ^ s∧b[n-1]*2 ^ s<4294967296):Norm b (L.take n) s n:=by
 have h1:=h1 (by omega)
 have hP:0<4294967296 ^ (n-1):=Nat.pow_pos (by decide)
 have e1:=val_split' (l:=b) (i:=n-1) (by omega)
 have e2:=val_drop (l:=b) (i:=n-1) (by omega)
 rw[List.drop_of_length_le (show b.length≤n-1+1 by omega)] at e2
 simp only[val,Nat.mul_zero,Nat.add_zero] at e2
 have e3:=val_take_lt hb (show n-1≤b.length by omega)
 rw[e2] at e1
 generalize b[n-1]=y at *
 have hpn:4294967296 ^ n=4294967296 ^ (n-1)*4294967296:=by rw[← Nat.pow_succ];congr 1;omega
 have hlo:4294967296 ^ (n-1)*(y*2 ^ s)≤val L:=by
  rw[hv,e1,Nat.add_mul,Nat.mul_assoc];omega
 have hhi:val L<4294967296 ^ (n-1)*(y*2 ^ s+2 ^ s):=by
  rw[hv,e1,Nat.add_mul,Nat.mul_add,Nat.mul_assoc]
  have:val (b.take (n-1))*2 ^ s<4294967296 ^ (n-1)*2 ^ s:=Nat.mul_lt_mul_of_pos_right e3 (Nat.two_pow_pos s)
  omega
 have hdiv:y*2 ^ s+2 ^ s≤4294967296:=by
  have:(2:Nat) ^ 32=2 ^ s*2 ^ (32-s):=by rw[← Nat.pow_add];congr 1;omega
  have h32:(2:Nat) ^ 32=4294967296:=rfl
  have h2:y+1≤2 ^ (32-s):=by
   have:y*2 ^ s<2 ^ (32-s)*2 ^ s:=by rw[Nat.mul_comm (2 ^ (32-s))];omega
   exact Nat.lt_of_mul_lt_mul_right this
  have h3:(y+1)*2 ^ s≤2 ^ (32-s)*2 ^ s:=Nat.mul_le_mul_right _ h2
  rw[Nat.add_mul,Nat.one_mul,Nat.mul_comm (2 ^ (32-s))] at h3
  omega
 have hlt:val L<4294967296 ^ n:=by
  rw[hpn]
  exact Nat.lt_of_lt_of_le hhi (Nat.mul_le_mul_left _ hdiv)
 have ht:val (L.take n)=val L:=by rw[val_take_mod bL (by omega),Nat.mod_eq_of_lt hlt]
 refine⟨by simp;omega,lb_take bL _,by rw[ht,hv],hs,hn,fun h=>?_⟩
 have e4:=val_drop_div (lb_take bL n) (i:=n-1) (by omega)
 have e5:=val_drop (l:=L.take n) (i:=n-1) h
 rw[List.drop_of_length_le (show (L.take n).length≤n-1+1 by simp;omega)] at e5
 simp only[val,Nat.mul_zero,Nat.add_zero] at e5
 rw[← e5,e4,ht,Nat.le_div_iff_mul_le hP,Nat.mul_comm]
 exact Nat.le_trans (Nat.mul_le_mul_left _ h1.1) hlo
theorem Norm.lt {b v:List Nat} {s n:Nat} (h:Norm b v s n):val v<4294967296 ^ n:=by have:=val_lt v h.lb;rwa [h.len] at this
theorem Norm.ge {b v:List Nat} {s n:Nat} (h:Norm b v s n):4294967296 ^ (n-1)*2147483648≤val v:=by
 have hl:=h.len
 have hn:=h.n1
 have ht:=h.top (by omega)
 have e1:=val_split' (l:=v) (i:=n-1) (by omega)
 have e2:=val_drop (l:=v) (i:=n-1) (by omega)
 rw[List.drop_of_length_le (show v.length≤n-1+1 by omega)] at e2
 simp only[val,Nat.mul_zero,Nat.add_zero] at e2
 rw[e2] at e1
 have:4294967296 ^ (n-1)*2147483648≤4294967296 ^ (n-1)*v[n-1]:=Nat.mul_le_mul_left _ ht
 omega
theorem Norm.pos {b v:List Nat} {s n:Nat} (h:Norm b v s n):0<val v:=Nat.lt_of_lt_of_le (Nat.mul_pos (Nat.pow_pos (by decide)) (by decide)) h.ge
theorem Norm.start {b v:List Nat} {s n:Nat} (h:Norm b v s n) {a:List Nat} {A:Nat} (ha:Lb a) (hA:A=val a*2 ^ s) {m:Nat} (hm:a.length+1=n+m):A<val v*4294967296 ^ m:=by
 have h1:=val_lt a ha
 have hn:=h.n1
 have h2:(2:Nat) ^ s≤2147483648:=Nat.pow_le_pow_right (by decide) h.s1
 have hs0:0<(2:Nat) ^ s:=Nat.two_pow_pos s
 have h3:A<4294967296 ^ a.length*2 ^ s:=by rw[hA];exact Nat.mul_lt_mul_of_pos_right h1 hs0
 have h4:4294967296 ^ a.length*2 ^ s≤4294967296 ^ a.length*2147483648:=Nat.mul_le_mul_left _ h2
 have h5:4294967296 ^ (n-1)*2147483648*4294967296 ^ m≤val v*4294967296 ^ m:=Nat.mul_le_mul_right _ h.ge
 have h6:4294967296 ^ (n-1)*2147483648*4294967296 ^ m=4294967296 ^ a.length*2147483648:=by
  rw[Nat.mul_assoc,Nat.mul_comm 2147483648,← Nat.mul_assoc,← Nat.pow_add];congr 2;omega
 omega
theorem shift_quo (A b s:Nat):A*2 ^ s/(b*2 ^ s)=A/b∧A*2 ^ s % (b*2 ^ s)=A % b*2 ^ s :=
 ⟨Nat.mul_div_mul_right _ _ (Nat.two_pow_pos s),Nat.mul_mod_mul_right _ _ _⟩
end Wd
namespace Wd
open Go.RowKit Lw Go.Shelf
attribute [local go_sem] Oper.semAt_some

def dn (n:Nat):Nat→List (Fin n)
 | 0=>[]
 | k+1=>if h:k<n then dn n k ++ [⟨n-1-k,by omega⟩] else dn n k
theorem dn_succ {n k:Nat} (h:k<n):dn n (k+1)=dn n k ++ [⟨n-1-k,by omega⟩]:=by rw[dn,dif_pos h]
theorem dn_len {n:Nat}:∀ {k:Nat},k≤n→(dn n k).length=k
 | 0,_=>rfl
 | k+1,h=>by rw[dn_succ (by omega),List.length_append,dn_len (by omega)];rfl
theorem dn_mem {n:Nat}:∀ {k:Nat},k≤n → ∀ x:Fin n,x∈dn n k↔n-k≤x.1
 | 0,_,x=>by simp[dn]
 | k+1,h,x=>by
  rw[dn_succ (by omega),List.mem_append,dn_mem (by omega),List.mem_singleton,Fin.ext_iff]
  have:=x.2
  simp only
  omega
theorem dn_succ' {n k p:Nat} (h:k+(p+1)=n):dn n (k+1)=dn n k ++ [⟨p,by omega⟩]:=by
 rw[dn_succ (by omega)]
 congr 2
 apply Fin.ext
 show n-1-k=p
 omega
def KeepB (n₀ Bs:Nat) (W W':World):Prop:=Below n₀ W W'∧W'.heap[Bs]? = W.heap[Bs]?
theorem keepB_t {n₀ Bs:Nat} {A B C:World} (h:KeepB n₀ Bs A B) (k:KeepB n₀ Bs B C):KeepB n₀ Bs A C:=⟨h.1.trans k.1,k.2.trans h.2⟩
theorem keepB_b {n₀ Bs:Nat} {w:World} (hn:n₀≤w.heap.size) (hb:Bs<w.heap.size) (W:World) (l:Nat) (o o':Obj) (hl:w.heap.size≤l) (h:W.heap[l]? = some o) (h1:o.isCells=false) (h2:o.isWalk=false):KeepB n₀ Bs W (W.putObj l o') :=
 ⟨belowK_b hn W l o o' hl h h1 h2,World.putObj_heap_other (by omega)⟩
def dnEnc (l:List Nat) (x:Fin l.length):Array Value:=#[.int .i64 (x.1:Int), .int .u32 (l[x.1]:Int)]
theorem down_walk (a:Option Addr) (n cap:Nat) (w:World) :
  Calls Tryz.prog 238 #[.slice a n cap] w fun e w'=>e = .returned (.func (.func 249) #[] #[.pointer (some ⟨w.heap.size,0,none⟩)])∧w'=w.alloc (.cells #[.slice a n cap] 64):=by
 go_enter Tryz.func238,Tryz.ntmps238
 go_wp2
 exact bodyPost_ret (results_tmp rfl _ _ _) rfl ⟨rfl,rfl⟩
theorem down1_in (F:Fence) (m:Nat) (hF:F.fn 249) (hro:F.round=none) (hm:1≤m) (lp Bs:Nat) (l:List Nat) (a:Option Addr) (len cap:Nat) (w0:World) (hL:Lim w0 a len cap l) (J Jx:List (Fin l.length)→World→Prop)
  (hY:∀ pre x W,J pre W→pre.length<l.length→YieldAt F (m-1) Tryz.prog lp (dnEnc l x) W fun e W' =>
   (e = .returned (.bool true)∧J (pre ++ [x]) W'∧KeepB w0.heap.size Bs W W')∨(e = .returned (.bool false)∧Jx (pre ++ [x]) W'))
  (W:World) (hB0:Below w0.heap.size w0 W) (hBs:W.heap[Bs]? = some (.cells #[.slice a len cap] 64 (0,0))) (h0:J [] W) :
  CallsIn F m Tryz.prog 249 #[.func (.yield lp) #[] #[], .pointer (some ⟨Bs,0,none⟩)] W fun e W'=>(∃ v,e = .returned v) ∧
   ((∃ ys,ys=dn l.length l.length∧J ys W')∨(∃ pre,(∃ k,k≤l.length∧pre=dn l.length k)∧Jx pre W')):=by
 have hlen:=hL.len
 have hsm:=hL.sm
 have HL:=Lib.hid hL
 clear hL
 refine callsIn_of_wp Tryz.func249 rfl hF ?_ hro
 simp only[Tryz.ntmps249,List.size_toArray,List.length_cons,List.length_nil,Nat.reduceAdd,Nat.reduceSub,Array.replicate_succ,Array.replicate_zero,List.push_toArray,List.append_toArray,List.nil_append,List.cons_append]
 have cB:=cell_of_one hBs
 gi_wp2
 gi_loopw [3] (fun i wr=>∃ k j:Nat,k+j=l.length∧i = .int .i64 ((j:Int)-1)∧J (dn l.length k) wr∧KeepB w0.heap.size Bs W wr)
  (fun i _=>(intOf i+1).toNat)
 case atStart=>exact⟨0,l.length,by omega,by simp[hlen],h0,Below.refl _ _,rfl⟩
 case round =>
  obtain⟨k,j,hk,rfl,hJs,hnx⟩:=hrel
  have cB:=cell_of_one (hnx.2.trans hBs)
  cases j with
  | succ p =>
   have hLr:=HL.out.below (hB0.trans hnx.1)
   obtain⟨b,off,rfl, -, -⟩:=hLr.row (by omega)
   have hcx:=hLr.cell (k:=p) (by omega)
   obtain⟨fn,tmps,assign,body,hy,hR⟩:=hY _ ⟨p,by omega⟩ wr hJs (by rw[dn_len (by omega)];omega)
   dsimp only[dnEnc] at hy
   have e1:(((p+1:Nat)):Int)-1=(p:Int):=by omega
   have k1:(p:Int)<(len:Int):=by omega
   have k0:(0:Int)≤(p:Int):=by omega
   have hs:=dn_succ' hk
   have HS:=Lib.hid hs
   clear hs hLr
   rw[e1]
   gi_wp2
   refine hR.mono ?_
   rintro e W3 (⟨rfl,hJ3,hk3⟩|⟨rfl,hJx3⟩)
   ·gi_wp2
    go_roundw
    case rel=>exact⟨k+1,p,by omega,by first|rfl|simp,by rw[HS.out];exact hJ3,keepB_t hnx hk3⟩
    case measure=>simp[intOf]
   ·gi_wp2
    refine bodyPost_ret (results_none rfl _ _ _) rfl ?_
    exact⟨⟨_,rfl⟩, .inr ⟨_,⟨k+1,by omega,HS.out.symm⟩,hJx3⟩⟩
  | zero =>
   obtain rfl:k=l.length:=by omega
   gi_wp2
   go_end0
   exact⟨⟨_,rfl⟩, .inl ⟨_,rfl,hJs⟩⟩
theorem down_stops (F:Fence) (m:Nat) (hF:F.fn 249) (hro:F.round=none) (hm:1≤m) (Bs:Nat) (l:List Nat) (a:Option Addr) (len cap:Nat) (w0 w:World) (hL:Lim w0 a len cap l) (hB0:Below w0.heap.size w0 w) (hBs:w.heap[Bs]? = some (.cells #[.slice a len cap] 64 (0,0))) :
  SeqStopsK F m Tryz.prog 249 #[.pointer (some ⟨Bs,0,none⟩)] (dnEnc l) (KeepB w0.heap.size Bs) (fun ys=>ys=dn l.length l.length) (fun pre=>∃ k,k≤l.length∧pre=dn l.length k) l.length w:=fun lp J Jx W hW _ _ hY h0 =>
 down1_in F m hF hro hm lp Bs l a len cap w0 hL J Jx hY W (hB0.trans (hW.mono hB0.size)) ((hW.block Bs (lt_of_block hBs)).trans hBs) h0
end Wd
namespace Tw
open Go.RowKit Lw Tk _root_.Go.Proofs.YtdnogmanbdgadaaGreatDoor.Op Ow Go.Shelf
attribute [local go_sem] Oper.semAt_some

def rowA (l:List Ob) (u:Rl) (i:Fin l.length):Nat→List (Fin l.length×Fin l.length)
 | 0=>[]
 | j+1=>if h:j<l.length then(if alw u l[i] (l[j]'h) then rowA l u i j ++ [(i,⟨j,h⟩)] else rowA l u i j) else rowA l u i j
def allA (l:List Ob) (u:Rl):Nat→List (Fin l.length×Fin l.length)
 | 0=>[]
 | i+1=>if h:i<l.length then allA l u i++rowA l u ⟨i,h⟩ l.length else allA l u i
theorem rowA_len (l:List Ob) (u:Rl) (i:Fin l.length):∀ j,(rowA l u i j).length≤j
 | 0=>by simp[rowA]
 | j+1=>by
  have:=rowA_len l u i j
  rw[rowA]
  split
  ·split
   ·simp;exact this
   ·omega
  ·omega
theorem allA_len (l:List Ob) (u:Rl):∀ k,(allA l u k).length≤k*l.length
 | 0=>by simp[allA]
 | k+1=>by
  have h1:=allA_len l u k
  rw[allA,Nat.add_mul,Nat.one_mul]
  split
  ·rename_i h
   have:=rowA_len l u ⟨k,h⟩ l.length
   rw[List.length_append];omega
  ·omega
theorem allA_bound (l:List Ob) (u:Rl) (i:Fin l.length) {j:Nat} (hj:j<l.length):(allA l u i.1++rowA l u i j).length<l.length*l.length:=by
 have h1:=allA_len l u i.1
 have h2:=rowA_len l u i j
 have h3:i.1*l.length+l.length≤l.length*l.length:=by
  rw[← Nat.succ_mul];exact Nat.mul_le_mul_right _ i.2
 rw[List.length_append];omega
theorem rowA_yes {l:List Ob} {u:Rl} {i:Fin l.length} {j:Nat} (hj:j<l.length) (h:alw u l[i] (l[j]'hj)):rowA l u i (j+1)=rowA l u i j ++ [(i,⟨j,hj⟩)]:=by rw[rowA,dif_pos hj,if_pos h]
theorem rowA_no {l:List Ob} {u:Rl} {i:Fin l.length} {j:Nat} (hj:j<l.length) (h:¬ alw u l[i] (l[j]'hj)):rowA l u i (j+1)=rowA l u i j:=by rw[rowA,dif_pos hj,if_neg h]
theorem allA_succ {l:List Ob} {u:Rl} {k:Nat} (hk:k<l.length):allA l u (k+1)=allA l u k++rowA l u ⟨k,hk⟩ l.length:=by rw[allA,dif_pos hk]
theorem blk_cell {W:World} {b:Nat} {cs:Array Value} {t:TypeId} {j:Nat} {v:Value} (h:W.heap[b]? = some (.cells cs t (0,0))) (hj:cs[j]? = some v):W.cell? ⟨b,j,none⟩=some v:=by
 simp[World.cell?,h,hj]
theorem below_grown {W W':World} (h:Below W.heap.size W W'):W.grownBy W' none:=⟨h.os,h.tape,h.output,h.size,fun k hk _=>h.block k hk⟩
abbrev pEnc (n:Nat) (x:Fin n×Fin n):Array Value:=#[.int .i64 (x.1.1:Int), .int .i64 (x.2.1:Int)]
theorem pair_at {w0 W:World} {x:Option Addr} {l:List Ob} (hl:SlA w0 x l) (hok:∀ o∈l,okO o) {B off:Nat} (hx:x=some ⟨B,off,none⟩) {i j:Nat} (hi:i<l.length) (hj:j<l.length) (hb:Below w0.heap.size w0 W):PairAt W B off l.length i j (l[i]'hi) (l[j]'hj):=by
 obtain⟨B',off',e,lt,row⟩:=(hl.below hb).get hi
 rw[hx] at e
 cases e
 exact⟨hi,hj,lt,row i hi,row j hj,hok _ (List.getElem_mem hi),hok _ (List.getElem_mem hj)⟩
theorem pairs_walk (x:Option Addr) (n c:Nat) (u:Rl) (w:World) :
  Calls Tryz.prog 32 #[ntV x n c u] w fun e w'=>e = .returned (.func (.func 61) #[] #[.pointer (some ⟨w.heap.size,0,none⟩)])∧w'=w.alloc (.cells (ntC x n c u).toArray 75):=by
 go_enter Tryz.func32,Tryz.ntmps32
 go_wp2
 exact bodyPost_ret (results_tmp rfl _ _ _) rfl ⟨rfl,rfl⟩
theorem pairs1_in (m:Nat) (hm:1≤m) (lp Bs:Nat) (l:List Ob) (x:Option Addr) (cap:Nat) (u:Rl) (w0:World) (hl:SlA w0 x l) (hok:∀ o∈l,okO o) (hu:okR u) (hsm:l.length≤1000000) (J Jx:List (Fin l.length×Fin l.length)→World→Prop) (W:World) (hJ:AbidesFrom W.heap.size J)
  (hY:∀ pre z W1,J pre W1→pre.length<l.length*l.length→YieldAt Fence.wide (m-1) Tryz.prog lp (pEnc l.length z) W1 fun e W' =>
   (e = .returned (.bool true)∧J (pre ++ [z]) W'∧Wd.KeepB w0.heap.size Bs W1 W')∨(e = .returned (.bool false)∧Jx (pre ++ [z]) W'))
  (hB0:Below w0.heap.size w0 W) (hBs:W.heap[Bs]? = some (.cells (ntC x l.length cap u).toArray 75 (0,0))) (h0:J [] W) :
  CallsIn Fence.wide m Tryz.prog 61 #[.func (.yield lp) #[] #[], .pointer (some ⟨Bs,0,none⟩)] W fun e W'=>(∃ v,e = .returned v) ∧
   ((∃ ys,ys=allA l u l.length∧J ys W')∨(∃ pre,True∧Jx pre W')):=by
 obtain⟨n,hn⟩:∃ n,l.length=n:=⟨_,rfl⟩
 have NL:=Lib.hid hn
 have PA:=Lib.hid (fun (B off:Nat) (hx:x=some ⟨B,off,none⟩) i j (hi:i<l.length) (hj:j<l.length) W' (hb:Wd.KeepB w0.heap.size Bs W W')=>(show PairAt W' B off n i j (l[i]'hi) (l[j]'hj) from hn ▸ pair_at hl hok hx hi hj (hB0.trans hb.1)))
 have GX:=Lib.hid (fun i (hi:i<l.length)=>(hl.get hi))
 rw[hn] at hBs
 have CB:=Lib.hid (fun W' (hb:Wd.KeepB w0.heap.size Bs W W') j v (hj:(ntC x n cap u).toArray[j]? = some v)=>blk_cell (hb.2.trans hBs) hj)
 have HJ:=Lib.hid hJ
 have HY:=Lib.hid hY
 have H0:=Lib.hid h0
 have hlt:=lt_of_block hBs
 have HC:=Lib.hid (fun W1 W2 (hk:Wd.KeepB w0.heap.size Bs W W1) (hs:W.heap.size≤W1.heap.size) (hb:Below W1.heap.size W1 W2)=>(show Wd.KeepB w0.heap.size Bs W W2∧W.heap.size≤W2.heap.size from⟨⟨hk.1.trans (hb.mono (Nat.le_trans (Nat.le_trans hB0.size hs) (Nat.le_refl _))),(hb.block Bs (by omega)).trans hk.2⟩,Nat.le_trans hs hb.size⟩))
 rw[hn] at hsm
 clear hl hok hJ hY h0 hBs hlt hn
 refine callsIn_of_wp Tryz.func61 rfl trivial ?_ rfl
 simp only[Tryz.ntmps61,List.size_toArray,List.length_cons,List.length_nil,Nat.reduceAdd,Nat.reduceSub,Array.replicate_succ,Array.replicate_zero,List.push_toArray,List.append_toArray,List.nil_append,List.cons_append]
 have cB:=CB.out W ⟨Below.refl _ _,rfl⟩ 0 _ rfl
 gi_wp2
 clear cB
 gi_loopw [8] (fun z wr=>∃ k:Nat,k≤n∧z = .int .i64 k∧Hid (J (allA l u k) wr)∧Hid (Wd.KeepB w0.heap.size Bs W wr∧W.heap.size≤wr.heap.size)) (fun z _=>n-(intOf z).toNat)
 case atStart=>exact⟨0,Nat.zero_le _,rfl,Lib.hid H0.out,Lib.hid ⟨⟨Below.refl _ _,rfl⟩,Nat.le_refl _⟩⟩
 case round =>
  clear H0
  obtain⟨k,hk,rfl,JK,KK⟩:=hrel
  by_cases hkn:k<n
  ·have hkl:k<l.length:=by rw[NL.out];exact hkn
   obtain⟨B,off,hx, -⟩:=GX.out k hkl
   subst hx
   have ki:(k:Int)<(n:Int):=by omega
   have cB:=CB.out wr KK.out.1 0 _ rfl
   gi_wp2
   clear cB
   gi_loopw [14] (fun z ws=>∃ j:Nat,j≤n∧z = .int .i64 j∧Hid (J (allA l u k++rowA l u ⟨k,hkl⟩ j) ws)∧Hid (Wd.KeepB w0.heap.size Bs W ws∧W.heap.size≤ws.heap.size)) (fun z _=>n-(intOf z).toNat)
   case atStart=>exact⟨0,Nat.zero_le _,rfl,Lib.hid (by rw[rowA,List.append_nil];exact JK.out),KK⟩
   case round =>
    clear JK KK
    obtain⟨j,hj,rfl,JJ,KK⟩:=hrel
    by_cases hjn:j<n
    ·have hjl:j<l.length:=by rw[NL.out];exact hjn
     have ji:(j:Int)<(n:Int):=by omega
     have al:=allowed_any n cap k j B off u (l[k]'hkl) (l[j]'hjl) wr (PA.out B off rfl k j hkl hjl wr KK.out.1) hu
     have c0:=CB.out wr KK.out.1 0 _ rfl
     have c1:=CB.out wr KK.out.1 1 _ rfl
     have c2:=CB.out wr KK.out.1 2 _ rfl
     have c3:=CB.out wr KK.out.1 3 _ rfl
     have c4:=CB.out wr KK.out.1 4 _ rfl
     have c5:=CB.out wr KK.out.1 5 _ rfl
     have YB:=Lib.hid (allA_bound l u ⟨k,hkl⟩ hjl)
     by_cases ha:alw u (l[k]'hkl) (l[j]'hjl)
     ·rw[decide_eq_true ha] at al
      have RY:=Lib.hid (rowA_yes (i:=⟨k,hkl⟩) hjl ha)
      gi_wp2_with (refine⟨trivial,?_⟩;gi_at_call 62;refine(callsIn_wide.2 al).mono ?_;rintro e w2 ⟨rfl,hb⟩;have JW:=HJ.out _ _ _ none JJ.out (below_grown hb) (fun r e=>by cases e);have K2:=Lib.hid (HC.out _ _ KK.out.1 KK.out.2 hb);obtain⟨fn,tmps,assign,body,hy,hR⟩:=HY.out _ (⟨k,hkl⟩,⟨j,hjl⟩) w2 JW YB.out;dsimp only[pEnc] at hy;clear hb JW)
      refine hR.mono ?_
      rintro e W3 (⟨rfl,hJ3,hk3⟩|⟨rfl,hJx3⟩)
      ·have J3:=Lib.hid hJ3
       have K3:=Lib.hid (show Wd.KeepB w0.heap.size Bs W W3∧W.heap.size≤W3.heap.size from⟨Wd.keepB_t K2.out.1 hk3,Nat.le_trans K2.out.2 hk3.1.size⟩)
       clear hJ3 hk3 hR hy
       gi_wp2
       go_roundw
       case rel=>exact⟨j+1,by omega,by go_num,Lib.hid (by rw[RY.out,← List.append_assoc];exact J3.out),K3⟩
       case measure=>simp[intOf];omega
      ·clear hR hy
       gi_wp2
       refine bodyPost_ret (results_none rfl _ _ _) rfl ?_
       exact⟨⟨_,rfl⟩, .inr ⟨_,trivial,hJx3⟩⟩
     ·rw[decide_eq_false ha] at al
      have RN:=Lib.hid (rowA_no (i:=⟨k,hkl⟩) hjl ha)
      gi_wp2_with (refine⟨trivial,?_⟩;gi_at_call 62;refine(callsIn_wide.2 al).mono ?_;rintro e w2 ⟨rfl,hb⟩;have J2:=Lib.hid (HJ.out _ _ _ none JJ.out (below_grown hb) (fun r e=>by cases e));have K2:=Lib.hid (HC.out _ _ KK.out.1 KK.out.2 hb);clear hb)
      refine⟨fun _ h=>(by cases h),?_⟩
      gi_wp2
      go_roundw
      case rel=>exact⟨j+1,by omega,by go_num,Lib.hid (by rw[RN.out];exact J2.out),K2⟩
      case measure=>simp[intOf];omega
    ·obtain rfl:j=n:=by omega
     have JN:=Lib.hid (show J (allA l u (k+1)) wr from by rw[allA_succ hkl];exact(congrArg (fun t=>J (allA l u k++rowA l u ⟨k,hkl⟩ t) wr) NL.out).mpr JJ.out)
     gi_wp2
     go_roundw
     case rel=>exact⟨k+1,by omega,by go_num,JN,KK⟩
     case measure=>simp[intOf];omega
  ·obtain rfl:k=n:=by omega
   gi_wp2
   go_end0
   exact⟨⟨_,rfl⟩, .inl ⟨_,rfl,(congrArg (fun t=>J (allA l u t) wr) NL.out).mpr JK.out⟩⟩
theorem pairs_stops (m:Nat) (hm:1≤m) (Bs:Nat) (l:List Ob) (x:Option Addr) (cap:Nat) (u:Rl) (w0 w:World) (hl:SlA w0 x l) (hok:∀ o∈l,okO o) (hu:okR u) (hsm:l.length≤1000000) (hB0:Below w0.heap.size w0 w) (hBs:w.heap[Bs]? = some (.cells (ntC x l.length cap u).toArray 75 (0,0))) :
  SeqStopsK Fence.wide m Tryz.prog 61 #[.pointer (some ⟨Bs,0,none⟩)] (pEnc l.length) (Wd.KeepB w0.heap.size Bs) (fun ys=>ys=allA l u l.length) (fun _=>True) (l.length*l.length) w:=fun lp J Jx W hW hJ _ hY h0 =>
 pairs1_in m hm lp Bs l x cap u w0 hl hok hu hsm J Jx W hJ hY (hB0.trans (hW.mono hB0.size)) ((hW.block Bs (lt_of_block hBs)).trans hBs) h0
end Tw
namespace Tw
open Go.RowKit Lw Tk _root_.Go.Proofs.YtdnogmanbdgadaaGreatDoor.Op Ow Go.Shelf
attribute [local go_sem] Oper.semAt_some

theorem blk_own {β:Type} (b:Nat) (cs:Array Value) (t:TypeId):Own (fun (_:β) W=>W.heap[b]? = some (.cells cs t (0,0))):=by
 rintro s X Y row hs hg hrow
 refine(hg.block b (lt_of_block hs) (fun e=>?_)).trans hs
 obtain⟨o,ho,hc⟩:=hrow b e.symm
 rw[hs] at ho
 cases ho
 cases hc
theorem blk_row {W:World} {b:Nat} {cs:Array Value} {t e:TypeId} {base size n:Nat} {v:Value} {xs:List Value} (h:W.heap[b]? = some (.cells cs t (0,0))) (hte:t≠e) (hr:W.ownsRow base e size v n xs):some b≠v.ownBlock:=by
 rcases hr.2 with⟨rfl,_⟩|⟨g,cap,cur,rfl,_,hgb,_⟩
 ·simp[Value.ownBlock]
 ·intro e'
  obtain rfl:b=g:=by simpa [Value.ownBlock] using e'
  rw[h] at hgb
  cases hgb
  exact hte rfl
theorem blk_alloc_grown {W w1:World} {b:Nat} {cs:Array Value} {t:TypeId} {tmp:Obj} {row:Option Nat} (h:W.heap[b]? = some (.cells cs t (0,0))) (hne:some b≠row) (hg:(W.alloc tmp).grownBy w1 row):w1.heap[b]? = some (.cells cs t (0,0)) :=
 (hg.block b (by simp;exact Nat.lt_succ_of_lt (lt_of_block h)) hne).trans ((Below.heap_alloc _ _ _ (lt_of_block h)).trans h)
theorem blk_set {W:World} {b:Nat} {cs:Array Value} {t:TypeId} (h:W.heap[b]? = some (.cells cs t (0,0))) (c:Nat) (hne:b≠c) (v:Value):(W.setCell ⟨c,0,none⟩ v).heap[b]? = some (.cells cs t (0,0)):=by
 show (W.heap.modify c _)[b]? = _
 rw[Array.getElem?_modify,if_neg (fun e=>hne e.symm)]
 exact h
end Tw
namespace Tk
end Tk
namespace Tw
open Go.RowKit Lw Tk Ow

theorem drawn_more {w W:World} (h:∃ q,W=w.drewN q) (n:Nat):∃ q,W.drewN n=w.drewN q:=by
 obtain⟨q,rfl⟩:=h
 exact⟨q+n,World.drewN_drewN _ _ _⟩
theorem drawn_below {w W:World} (h:∃ q,W=w.drewN q):Below w.heap.size w W:=by
 obtain⟨q,rfl⟩:=h
 exact drewN_below2 (Below.refl _ _) q
theorem row1 {w:World} {A:Option Addr} {l:List Nat} (h:RowsG 1 inE w A l) {i:Nat} (hi:i<l.length):∃ g,A=some ⟨g,0,none⟩∧w.cell? ⟨g,i,none⟩=some (.int .i64 (l[i]:Int)):=by
 obtain⟨g,e, -,r⟩:=h.row i hi
 have:=r 0 _ rfl
 rw[Nat.mul_one,Nat.add_zero] at this
 exact⟨g,e,this⟩
end Tw
end Go.Proofs.YtdnogmanbdgadaaGreatDoor
namespace Go.Proofs
open Go.Shelf
def Tryz.slCont_ren:Go.Shelf.Ren:=⟨fun|7=>67|6=>101|n=>n,fun|22=>76|24=>82|4=>4|0=>0|3=>3|n=>n,fun n=>n⟩
theorem Tryz.slCont:Go.Proofs.SlLaysQ.n7 Tryz.prog Tryz.slCont_ren:={
 mixed:=by kernel_rfl
 f6:=⟨Tryz.f101.name,by decide,Tryz.func101.trans (congrArg some (by kernel_rfl))⟩
 f7:=⟨Tryz.f67.name,by decide,Tryz.func67.trans (congrArg some (by kernel_rfl))⟩
 t0:=Tryz.underlying0
 a0:=Tryz.isAgg0
 z0:=Tryz.sizeOf0
 v0:=Tryz.zeroValue0
 t3:=Tryz.underlying3
 a3:=Tryz.isAgg3
 z3:=Tryz.sizeOf3
 v3:=Tryz.zeroValue3
 t4:=Tryz.underlying4
 a4:=Tryz.isAgg4
 z4:=Tryz.sizeOf4
 v4:=Tryz.zeroValue4
 t22:=Tryz.underlying76
 a22:=Tryz.isAgg76
 z22:=Tryz.sizeOf76
 v22:=Tryz.zeroValue76 }
def Tryz.slContF_ren:Go.Shelf.Ren:=⟨fun|8=>68|6=>102|n=>n,fun|22=>76|23=>82|25=>122|4=>4|3=>3|0=>0|n=>n,fun n=>n⟩
theorem Tryz.slContF:Go.Proofs.SlLaysH0.n8 Tryz.prog Tryz.slContF_ren:={
 mixed:=by kernel_rfl
 f6:=⟨Tryz.f102.name,by decide,Tryz.func102.trans (congrArg some (by kernel_rfl))⟩
 f8:=⟨Tryz.f68.name,by decide,Tryz.func68.trans (congrArg some (by kernel_rfl))⟩
 t0:=Tryz.underlying0
 a0:=Tryz.isAgg0
 z0:=Tryz.sizeOf0
 v0:=Tryz.zeroValue0
 t3:=Tryz.underlying3
 a3:=Tryz.isAgg3
 z3:=Tryz.sizeOf3
 v3:=Tryz.zeroValue3
 t4:=Tryz.underlying4
 a4:=Tryz.isAgg4
 z4:=Tryz.sizeOf4
 v4:=Tryz.zeroValue4
 t22:=Tryz.underlying76
 a22:=Tryz.isAgg76
 z22:=Tryz.sizeOf76
 v22:=Tryz.zeroValue76
 t25:=Tryz.underlying122
 a25:=Tryz.isAgg122
 z25:=Tryz.sizeOf122
 v25:=Tryz.zeroValue122 }
def Tryz.slSort_ren:Go.Shelf.Ren:=⟨fun|6=>38|15=>72|14=>71|28=>111|29=>112|20=>103|21=>104|22=>105|23=>106|24=>107|25=>108|26=>109|27=>110|46=>158|47=>159|48=>160|49=>161|50=>162|57=>199|n=>n,fun|22=>34|24=>29|25=>89|3=>3|39=>98|0=>0|53=>170|55=>80|4=>4|46=>163|45=>162|50=>167|5=>5|9=>9|66=>204|70=>208|76=>248|77=>105|n=>n,fun n=>n⟩
theorem Tryz.slSort:Go.Proofs.SlLaysF.n6 Tryz.prog Tryz.slSort_ren:={
 mixed:=by kernel_rfl
 f6:=⟨Tryz.f38.name,by decide,Tryz.func38.trans (congrArg some (by kernel_rfl))⟩
 f14:=⟨Tryz.f71.name,by decide,Tryz.func71.trans (congrArg some (by kernel_rfl))⟩
 f15:=Tryz.func72.trans (congrArg some (by kernel_rfl))
 f20:=⟨Tryz.f103.name,by decide,Tryz.func103.trans (congrArg some (by kernel_rfl))⟩
 f21:=⟨Tryz.f104.name,by decide,Tryz.func104.trans (congrArg some (by kernel_rfl))⟩
 f22:=⟨Tryz.f105.name,by decide,Tryz.func105.trans (congrArg some (by kernel_rfl))⟩
 f23:=⟨Tryz.f106.name,by decide,Tryz.func106.trans (congrArg some (by kernel_rfl))⟩
 f24:=⟨Tryz.f107.name,by decide,Tryz.func107.trans (congrArg some (by kernel_rfl))⟩
 f25:=⟨Tryz.f108.name,by decide,Tryz.func108.trans (congrArg some (by kernel_rfl))⟩
 f26:=⟨Tryz.f109.name,by decide,Tryz.func109.trans (congrArg some (by kernel_rfl))⟩
 f27:=⟨Tryz.f110.name,by decide,Tryz.func110.trans (congrArg some (by kernel_rfl))⟩
 f28:=Tryz.func111.trans (congrArg some (by kernel_rfl))
 f29:=Tryz.func112.trans (congrArg some (by kernel_rfl))
 f46:=⟨Tryz.f158.name,by decide,Tryz.func158.trans (congrArg some (by kernel_rfl))⟩
 f47:=Tryz.func159.trans (congrArg some (by kernel_rfl))
 f48:=Tryz.func160.trans (congrArg some (by kernel_rfl))
 f49:=⟨Tryz.f161.name,by decide,Tryz.func161.trans (congrArg some (by kernel_rfl))⟩
 f50:=⟨Tryz.f162.name,by decide,Tryz.func162.trans (congrArg some (by kernel_rfl))⟩
 f57:=⟨Tryz.f199.name,by decide,Tryz.func199.trans (congrArg some (by kernel_rfl))⟩
 t0:=Tryz.underlying0
 a0:=Tryz.isAgg0
 z0:=Tryz.sizeOf0
 v0:=Tryz.zeroValue0
 t3:=Tryz.underlying3
 a3:=Tryz.isAgg3
 z3:=Tryz.sizeOf3
 v3:=Tryz.zeroValue3
 t4:=Tryz.underlying4
 a4:=Tryz.isAgg4
 z4:=Tryz.sizeOf4
 v4:=Tryz.zeroValue4
 t5:=Tryz.underlying5
 a5:=Tryz.isAgg5
 z5:=Tryz.sizeOf5
 v5:=Tryz.zeroValue5
 t9:=Tryz.underlying9
 a9:=Tryz.isAgg9
 z9:=Tryz.sizeOf9
 v9:=Tryz.zeroValue9
 t22:=Tryz.underlying34
 a22:=Tryz.isAgg34
 z22:=Tryz.sizeOf34
 v22:=Tryz.zeroValue34
 a24:=Tryz.isAgg29
 z24:=Tryz.sizeOf29
 t25:=Tryz.underlying89
 a25:=Tryz.isAgg89
 z25:=Tryz.sizeOf89
 v25:=Tryz.zeroValue89
 t39:=Tryz.underlying98
 a39:=Tryz.isAgg98
 z39:=Tryz.sizeOf98
 v39:=Tryz.zeroValue98
 t45:=Tryz.underlying162
 a45:=Tryz.isAgg162
 z45:=Tryz.sizeOf162
 v45:=Tryz.zeroValue162
 t46:=Tryz.underlying163
 a46:=Tryz.isAgg163
 z46:=Tryz.sizeOf163
 v46:=Tryz.zeroValue163
 t50:=Tryz.underlying167
 a50:=Tryz.isAgg167
 z50:=Tryz.sizeOf167
 v50:=Tryz.zeroValue167
 t53:=Tryz.underlying170
 a53:=Tryz.isAgg170
 z53:=Tryz.sizeOf170
 v53:=Tryz.zeroValue170
 t55:=Tryz.underlying80
 a55:=Tryz.isAgg80
 z55:=Tryz.sizeOf80
 v55:=Tryz.zeroValue80
 t66:=Tryz.underlying204
 a66:=Tryz.isAgg204
 z66:=Tryz.sizeOf204
 v66:=Tryz.zeroValue204
 t70:=Tryz.underlying208
 a70:=Tryz.isAgg208
 z70:=Tryz.sizeOf208
 v70:=Tryz.zeroValue208
 t76:=Tryz.underlying248
 a76:=Tryz.isAgg248
 z76:=Tryz.sizeOf248
 v76:=Tryz.zeroValue248
 t77:=Tryz.underlying105
 a77:=Tryz.isAgg105
 z77:=Tryz.sizeOf105
 v77:=Tryz.zeroValue105 }
def Tryz.lays7tz_ren:Go.Shelf.Ren:=⟨fun|29=>70|n=>n,fun|22=>80|3=>3|4=>4|25=>98|54=>160|0=>0|5=>5|n=>n,fun|1=>0|n=>n⟩
theorem Tryz.lays7tz:Go.Proofs.Lays7.n29 Tryz.prog Tryz.lays7tz_ren:={
 mixed:=by kernel_rfl
 f29:=Tryz.func70.trans (congrArg some (by kernel_rfl))
 t0:=Tryz.underlying0
 a0:=Tryz.isAgg0
 z0:=Tryz.sizeOf0
 v0:=Tryz.zeroValue0
 i0:=by kernel_rfl
 t3:=Tryz.underlying3
 a3:=Tryz.isAgg3
 z3:=Tryz.sizeOf3
 v3:=Tryz.zeroValue3
 i3:=by kernel_rfl
 t4:=Tryz.underlying4
 a4:=Tryz.isAgg4
 z4:=Tryz.sizeOf4
 v4:=Tryz.zeroValue4
 i4:=by kernel_rfl
 t5:=Tryz.underlying5
 a5:=Tryz.isAgg5
 z5:=Tryz.sizeOf5
 v5:=Tryz.zeroValue5
 i5:=by kernel_rfl
 t22:=Tryz.underlying80
 a22:=Tryz.isAgg80
 z22:=Tryz.sizeOf80
 v22:=Tryz.zeroValue80
 i22:=by kernel_rfl
 t25:=Tryz.underlying98
 a25:=Tryz.isAgg98
 z25:=Tryz.sizeOf98
 v25:=Tryz.zeroValue98
 i25:=by kernel_rfl
 t54:=Tryz.underlying160
 a54:=Tryz.isAgg160
 z54:=Tryz.sizeOf160
 g1:=by kernel_rfl }
end Go.Proofs
