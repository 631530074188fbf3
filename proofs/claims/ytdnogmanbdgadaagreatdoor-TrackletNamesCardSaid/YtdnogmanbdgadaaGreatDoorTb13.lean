/-
  Lemmas and walks, texts joined: WDPl, WBits, WPlus.
-/
import Derived.Laws.BitsAllLaws
import Derived.Test.YtdnogmanbdgadaaGreatDoorTb12
import Derived.Test.YtdnogmanbdgadaaGreatDoorTb05
set_option linter.unusedSimpArgs false
set_option linter.unusedVariables false
set_option maxRecDepth 100000
set_option maxHeartbeats 40000000
namespace Go.Proofs.YtdnogmanbdgadaaGreatDoor
namespace Wd

theorem take_set_eq (L:List Nat) (i v:Nat):(L.set i v).take i=L.take i:=by
 rw[List.take_set];exact List.set_eq_of_length_le (by rw[List.length_take];exact Nat.min_le_left _ _)
theorem val_take_set {L:List Nat} {i:Nat} (v:Nat) (h:i<L.length):val ((L.set i v).take (i+1))=val (L.take i)+4294967296 ^ i*v:=by
 rw[val_take _ i (by simpa using h),take_set_eq];simp
theorem val_drop {l:List Nat} {i:Nat} (h:i<l.length):val (l.drop i)=l[i]+4294967296*val (l.drop (i+1)):=by
 rw[List.drop_eq_getElem_cons h];rfl
theorem drop_set_gt (L:List Nat) {i k:Nat} (v:Nat) (h:i<k):(L.set i v).drop k=L.drop k:=by
 apply List.ext_getElem
 ·simp
 ·intro j h1 h2
  simp only[List.getElem_drop]
  exact List.getElem_set_ne (by omega) _
theorem val_drop_set {L:List Nat} {i:Nat} (v:Nat) (h:i<L.length):val ((L.set i v).drop i)=v+4294967296*val (L.drop (i+1)):=by
 rw[val_drop (by simpa using h),drop_set_gt _ _ (by omega)];simp
theorem split_pow (P t:Nat):P*(t % 4294967296)+t/4294967296*(P*4294967296)=P*t:=by
 rw[Nat.mul_left_comm,← Nat.mul_add,Nat.mul_comm (t/4294967296),Nat.add_comm,Nat.div_add_mod]
def at0 (b:List Nat) (i:Nat):Nat:=if h:i<b.length then b[i] else 0
theorem at0_in {b:List Nat} {i:Nat} (h:i<b.length):at0 b i=b[i]:=dif_pos h
theorem at0_out {b:List Nat} {i:Nat} (h:¬ i<b.length):at0 b i=0:=dif_neg h
theorem at0_lt {b:List Nat} (hb:Lb b) (i:Nat):at0 b i<4294967296:=by
 by_cases h:i<b.length
 ·rw[at0_in h];exact lb_get hb h
 ·rw[at0_out h];omega
theorem val_take0 (b:List Nat) (i:Nat):val (b.take (i+1))=val (b.take i)+4294967296 ^ i*at0 b i:=by
 by_cases h:i<b.length
 ·rw[at0_in h];exact val_take b i h
 ·rw[at0_out h,List.take_of_length_le (by omega),List.take_of_length_le (by omega)];simp
structure PIn (a b L:List Nat) (i c:Nat):Prop where
 len:L.length=a.length+1
 lb:Lb L
 c1:c≤1
 v:val (L.take i)+c*4294967296 ^ i=val (a.take i)+val (b.take i)
theorem lb_zeros (n:Nat):Lb (List.replicate n 0):=fun x hx=>by have:=List.eq_of_mem_replicate hx;omega
theorem PIn.zero (a b:List Nat):PIn a b (List.replicate (a.length+1) 0) 0 0:=⟨by simp,lb_zeros _,by omega,by simp[val]⟩
theorem PIn.step {a b L:List Nat} {i c:Nat} (h:PIn a b L i c) (hi:i<a.length) (ha:Lb a) (hb:Lb b) :
  PIn a b (L.set i ((a[i]+at0 b i+c) % 4294967296)) (i+1) ((a[i]+at0 b i+c)/4294967296):=by
 have hl:=h.len
 have hx:=lb_get ha hi
 have hy:=at0_lt hb i
 have hc:=h.c1
 refine⟨by simpa using hl,lb_set h.lb _ _ (Nat.mod_lt _ (by decide)),by omega,?_⟩
 have hv:=h.v
 rw[val_take_set _ (by omega),val_take a i hi,val_take0,Nat.pow_succ]
 generalize a[i]=x at *
 generalize at0 b i=y at *
 have e:=split_pow (4294967296 ^ i) (x+y+c)
 have e2:4294967296 ^ i*(x+y+c)=4294967296 ^ i*x+4294967296 ^ i*y+c*4294967296 ^ i:=by rw[Nat.mul_add,Nat.mul_add,Nat.mul_comm _ c]
 omega
theorem PIn.fin {a b L:List Nat} {c:Nat} (h:PIn a b L a.length c) (hb:b.length≤a.length):val (L.set a.length c)=val a+val b∧Lb (L.set a.length c):=by
 have hv:=h.v
 have hl:=h.len
 have e:=val_take_set (L:=L) (i:=a.length) c (by omega)
 rw[List.take_of_length_le (by simp;omega)] at e
 rw[List.take_of_length_le (Nat.le_refl _),List.take_of_length_le hb] at hv
 exact⟨by rw[e,← hv,Nat.mul_comm c],lb_set h.lb _ _ (by have:=h.c1;omega)⟩
theorem sub_digit {x y c:Nat} (hx:x<4294967296) (hy:y<4294967296) (hc:c≤1):(x+4294967296-y-c) % 4294967296+y+c=x+4294967296*(if x<y+c then 1 else 0):=by
 split <;> omega
theorem sub_pow (P:Nat) {x y c:Nat} (hx:x<4294967296) (hy:y<4294967296) (hc:c≤1) :
  P*((x+4294967296-y-c) % 4294967296)+P*y+c*P=P*x+(if x<y+c then 1 else 0)*(P*4294967296):=by
 have:=congrArg (P * ·) (sub_digit hx hy hc)
 simp only[Nat.mul_add] at this
 rw[Nat.mul_comm c P,this,← Nat.mul_assoc,Nat.mul_comm (if x<y+c then 1 else 0)]
theorem br_le (x y c:Nat):(if x<y+c then 1 else 0:Nat)≤1:=by split <;> omega
structure MIn (a b L:List Nat) (i c:Nat):Prop where
 len:L.length=a.length
 lb:Lb L
 c1:c≤1
 v:val (L.take i)+val (b.take i)=val (a.take i)+c*4294967296 ^ i
theorem MIn.zero (a b:List Nat):MIn a b (List.replicate a.length 0) 0 0:=⟨by simp,lb_zeros _,by omega,by simp[val]⟩
theorem MIn.step {a b L:List Nat} {i c:Nat} (h:MIn a b L i c) (hi:i<a.length) (ha:Lb a) (hb:Lb b) :
  MIn a b (L.set i ((a[i]+4294967296-at0 b i-c) % 4294967296)) (i+1) (if a[i]<at0 b i+c then 1 else 0):=by
 have hl:=h.len
 have hx:=lb_get ha hi
 have hy:=at0_lt hb i
 have hc:=h.c1
 refine⟨by simpa using hl,lb_set h.lb _ _ (Nat.mod_lt _ (by decide)),br_le _ _ _,?_⟩
 have hv:=h.v
 rw[val_take_set _ (by omega),val_take a i hi,val_take0,Nat.pow_succ]
 have e:=sub_pow (4294967296 ^ i) hx hy hc
 generalize (if a[i]<at0 b i+c then 1 else 0:Nat)=g at *
 generalize a[i]=x at *
 generalize at0 b i=y at *
 omega
theorem MIn.fin {a b L:List Nat} {c:Nat} (h:MIn a b L a.length c) (hb:b.length≤a.length) (hle:val b≤val a):val L=val a-val b:=by
 have hv:=h.v
 have hl:=h.len
 have hlt:=val_lt L h.lb
 rw[List.take_of_length_le (by omega),List.take_of_length_le (Nat.le_refl _),List.take_of_length_le hb] at hv
 rw[hl] at hlt
 have hc:=h.c1
 rcases Nat.eq_zero_or_pos c with rfl|h0
 ·omega
 ·obtain rfl:c=1:=by omega
  omega
structure SIn (u0 v:List Nat) (q:Nat) (u:List Nat) (i c br:Nat):Prop where
 len:u.length=u0.length
 lb:Lb u
 c1:c<4294967296
 b1:br≤1
 v:val (u.take i)+q*val (v.take i)=val (u0.take i)+(br+c)*4294967296 ^ i
 d:u.drop i=u0.drop i
theorem SIn.zero {u0:List Nat} (v:List Nat) (q:Nat) (h:Lb u0):SIn u0 v q u0 0 0 0:=⟨rfl,h,by omega,by omega,by simp[val],rfl⟩
theorem drop_get {u u0:List Nat} {i:Nat} (h:u.drop i=u0.drop i) (hi:i<u.length) (h0:i<u0.length):u[i]=u0[i]:=by
 rw[List.drop_eq_getElem_cons hi,List.drop_eq_getElem_cons h0] at h
 exact(List.cons.inj h).1
theorem q_bd {q x c:Nat} (hq:q<4294967296) (hx:x<4294967296) (hc:c<4294967296):c+q*x<4294967296*4294967296∧(c+q*x)/4294967296<4294967296:=by
 have:q*x≤4294967295*4294967295:=Nat.mul_le_mul (by omega) (by omega)
 constructor <;> omega
theorem SIn.step {u0 v u:List Nat} {q i c br:Nat} (h:SIn u0 v q u i c br) (hi:i<v.length) (hu:i<u.length) (hv:Lb v) (hq:q<4294967296) :
  SIn u0 v q (u.set i ((u[i]+4294967296-(c+q*v[i]) % 4294967296-br) % 4294967296)) (i+1) ((c+q*v[i])/4294967296) (if u[i]<(c+q*v[i]) % 4294967296+br then 1 else 0):=by
 have hl:=h.len
 have hw:=lb_get h.lb hu
 have hx:=lb_get hv hi
 have hb:=q_bd hq hx h.c1
 have e0:=drop_get h.d hu (by omega)
 refine⟨by simpa using hl,lb_set h.lb _ _ (Nat.mod_lt _ (by decide)),hb.2,br_le _ _ _,?_,?_⟩
 ·have hvv:=h.v
  have e1:=sub_pow (4294967296 ^ i) hw (Nat.mod_lt (c+q*v[i]) (by decide)) h.b1
  have e2:=split_pow (4294967296 ^ i) (c+q*v[i])
  rw[val_take_set _ hu,val_take v i hi,val_take u0 i (by omega),← e0,Nat.pow_succ]
  generalize (if u[i]<(c+q*v[i]) % 4294967296+br then 1 else 0:Nat)=g at *
  generalize u[i]=w at *
  generalize v[i]=x at *
  have e3:4294967296 ^ i*(c+q*x)=c*4294967296 ^ i+q*(4294967296 ^ i*x):=by rw[Nat.mul_add,Nat.mul_comm _ c,Nat.mul_left_comm]
  generalize (c+q*x) % 4294967296=m at *
  generalize (c+q*x)/4294967296=d at *
  rw[e3] at e2
  rw[Nat.mul_add q,Nat.add_mul g]
  rw[Nat.add_mul] at hvv
  omega
 ·have e:=congrArg (List.drop 1) h.d
  rw[List.drop_drop,List.drop_drop] at e
  rw[drop_set_gt _ _ (by omega)]
  exact e
theorem SIn.last {u0 v u:List Nat} {q c br:Nat} (h:SIn u0 v q u v.length c br) (hu:v.length+1=u.length) :
  Lb (u.set v.length ((u[v.length]+4294967296-c-br) % 4294967296)) ∧
  val (u.set v.length ((u[v.length]+4294967296-c-br) % 4294967296))+q*val v=val u0+(if u[v.length]<c+br then 1 else 0)*4294967296 ^ (v.length+1):=by
 have hl:=h.len
 have hw:=lb_get h.lb (show v.length<u.length by omega)
 have e0:=drop_get h.d (show v.length<u.length by omega) (by omega)
 refine⟨lb_set h.lb _ _ (Nat.mod_lt _ (by decide)),?_⟩
 have hvv:=h.v
 rw[List.take_of_length_le (Nat.le_refl _)] at hvv
 have e1:=sub_pow (4294967296 ^ v.length) hw h.c1 h.b1
 have e:=val_take_set (L:=u) (i:=v.length) ((u[v.length]+4294967296-c-br) % 4294967296) (by omega)
 rw[List.take_of_length_le (by simp;omega)] at e
 have e4:=val_take u0 v.length (by omega)
 rw[List.take_of_length_le (by omega),← e0] at e4
 rw[e,e4,Nat.pow_succ]
 generalize (if u[v.length]<c+br then 1 else 0:Nat)=g at *
 rw[Nat.add_mul,Nat.mul_comm c] at hvv
 omega
theorem SIn.done {u0 v u':List Nat} {q g:Nat} (hl:u'.length=u0.length) (hu:v.length+1=u0.length) (hb:Lb u') (h0:Lb u0) (hg:g≤1) (h:val u'+q*val v=val u0+g*4294967296 ^ (v.length+1)) :
  (g=0↔q*val v≤val u0)∧(g=0→val u'+q*val v=val u0):=by
 have h1:=val_lt u' hb
 have h2:=val_lt u0 h0
 rw[hl,← hu] at h1
 rw[← hu] at h2
 rcases Nat.eq_zero_or_pos g with rfl|hp
 ·constructor
  ·exact⟨fun _=>by omega,fun _=>rfl⟩
  ·intro _;omega
 ·obtain rfl:g=1:=by omega
  refine⟨⟨fun e=>by omega,fun e=>by omega⟩,fun e=>by omega⟩
structure DIn (l L:List Nat) (d i r:Nat):Prop where
 len:L.length=l.length
 lb:Lb L
 r1:r<d
 v:val (L.drop i)*d+r=val (l.drop i)
theorem DIn.zero (l:List Nat) {d:Nat} (h:0<d):DIn l (List.replicate l.length 0) d l.length 0:=⟨by simp,lb_zeros _,h,by rw[List.drop_of_length_le (by simp),List.drop_of_length_le (Nat.le_refl _)];simp[val]⟩
theorem quo_lt {r x d:Nat} (hr:r<d) (hx:x<4294967296):(r*4294967296+x)/d<4294967296:=by
 rw[Nat.div_lt_iff_lt_mul (by omega),Nat.mul_comm]
 have:(r+1)*4294967296≤d*4294967296:=Nat.mul_le_mul_right _ hr
 omega
theorem DIn.step {l L:List Nat} {d i r:Nat} (h:DIn l L d (i+1) r) (hi:i<l.length) (hl:Lb l):DIn l (L.set i ((r*4294967296+l[i])/d)) d i ((r*4294967296+l[i]) % d):=by
 have hlen:=h.len
 have hr:=h.r1
 have hx:=lb_get hl hi
 refine⟨by simpa using hlen,lb_set h.lb _ _ (quo_lt hr hx),Nat.mod_lt _ (by omega),?_⟩
 have hv:=h.v
 rw[val_drop_set _ (by omega),val_drop hi]
 generalize l[i]=x at *
 have e:=Nat.div_add_mod (r*4294967296+x) d
 rw[← hv,Nat.add_mul,Nat.mul_assoc]
 rw[Nat.mul_comm d] at e
 omega
theorem DIn.fin {l L:List Nat} {d r:Nat} (h:DIn l L d 0 r):val L=val l/d∧r=val l % d:=by
 have hv:=h.v
 have hr:=h.r1
 rw[List.drop_zero,List.drop_zero] at hv
 rw[← hv]
 constructor
 ·rw[Nat.mul_comm,Nat.mul_add_div (by omega),Nat.div_eq_of_lt hr];rfl
 ·rw[Nat.mul_comm,Nat.mul_add_mod,Nat.mod_eq_of_lt hr]
structure FIn (l L:List Nat) (s i c:Nat):Prop where
 len:L.length=i
 lb:Lb L
 c1:c<2 ^ s
 v:val L+c*4294967296 ^ i=val (l.take i)*2 ^ s
theorem FIn.zero (l:List Nat) (s:Nat):FIn l [] s 0 0:=⟨rfl,fun x hx=>by simp at hx,Nat.two_pow_pos s,by simp[val]⟩
theorem val_snoc (L:List Nat) (x:Nat):val (L ++ [x])=val L+4294967296 ^ L.length*x:=by rw[val_append];simp[val]
theorem lb_snoc {L:List Nat} (h:Lb L) {x:Nat} (hx:x<4294967296):Lb (L ++ [x]):=fun y hy=>by
 rcases List.mem_append.1 hy with g|g
 ·exact h y g
 ·rw[List.mem_singleton.1 g];exact hx
theorem FIn.step {l L:List Nat} {s i c:Nat} (h:FIn l L s i c) (hi:i<l.length) (hl:Lb l):FIn l (L ++ [(c+l[i]*2 ^ s) % 4294967296]) s (i+1) ((c+l[i]*2 ^ s)/4294967296):=by
 have hlen:=h.len
 subst hlen
 have hx:=lb_get hl hi
 have hc:=h.c1
 have hv:=h.v
 refine⟨by simp,lb_snoc h.lb (Nat.mod_lt _ (by decide)),?_,?_⟩
 ·rw[Nat.div_lt_iff_lt_mul (by decide)]
  have:l[L.length]*2 ^ s≤4294967295*2 ^ s:=Nat.mul_le_mul_right _ (by omega)
  omega
 ·rw[val_snoc,val_take l L.length hi,Nat.pow_succ]
  generalize l[L.length]=x at *
  have e:=split_pow (4294967296 ^ L.length) (c+x*2 ^ s)
  have e2:4294967296 ^ L.length*(c+x*2 ^ s)=c*4294967296 ^ L.length+4294967296 ^ L.length*x*2 ^ s:=by rw[Nat.mul_add,Nat.mul_comm _ c,Nat.mul_assoc]
  rw[Nat.add_mul]
  omega
theorem FIn.fin {l L:List Nat} {s c:Nat} (h:FIn l L s l.length c) (hs:s≤32):val (L ++ [c])=val l*2 ^ s∧Lb (L ++ [c])∧(L ++ [c]).length=l.length+1:=by
 have hv:=h.v
 have hp:(2:Nat) ^ s≤2 ^ 32:=Nat.pow_le_pow_right (by decide) hs
 have hc:=h.c1
 rw[List.take_of_length_le (Nat.le_refl _)] at hv
 refine⟨by rw[val_snoc,h.len,← hv,Nat.mul_comm c],lb_snoc h.lb (by have:(2:Nat) ^ 32=4294967296:=rfl;omega),by simp[h.len]⟩
theorem val_split (l:List Nat) (i:Nat):val l=val (l.take i)+4294967296 ^ (l.take i).length*val (l.drop i):=by
 have:=val_append (l.take i) (l.drop i)
 rwa [List.take_append_drop] at this
theorem val_split' {l:List Nat} {i:Nat} (h:i≤l.length):val l=val (l.take i)+4294967296 ^ i*val (l.drop i):=by
 have:=val_split l i
 rwa [List.length_take,Nat.min_eq_left h] at this
theorem lb_take {l:List Nat} (h:Lb l) (i:Nat):Lb (l.take i):=fun x hx=>h x (List.mem_of_mem_take hx)
theorem lb_drop {l:List Nat} (h:Lb l) (i:Nat):Lb (l.drop i):=fun x hx=>h x (List.mem_of_mem_drop hx)
theorem val_take_lt {l:List Nat} (h:Lb l) {i:Nat} (hi:i≤l.length):val (l.take i)<4294967296 ^ i:=by
 have:=val_lt _ (lb_take h i)
 rwa [List.length_take,Nat.min_eq_left hi] at this
theorem val_take_mod {l:List Nat} (h:Lb l) {i:Nat} (hi:i≤l.length):val (l.take i)=val l % 4294967296 ^ i:=by
 rw[val_split' hi,Nat.add_mul_mod_self_left,Nat.mod_eq_of_lt (val_take_lt h hi)]
theorem val_drop_div {l:List Nat} (h:Lb l) {i:Nat} (hi:i≤l.length):val (l.drop i)=val l/4294967296 ^ i:=by
 have hp:0<4294967296 ^ i:=Nat.pow_pos (by decide)
 conv=>rhs;rw[val_split' hi]
 rw[Nat.add_mul_div_left _ _ hp,Nat.div_eq_of_lt (val_take_lt h hi),Nat.zero_add]
theorem lt_of_top {a b:List Nat} (ha:Lb a) (hlen:a.length=b.length) {i:Nat} (hi:i<a.length) (hd:a.drop (i+1)=b.drop (i+1)) (h:a[i]<b[i]):val a<val b:=by
 have e1:=val_split' (l:=a) (i:=i) (by omega)
 have e2:=val_split' (l:=b) (i:=i) (by omega)
 have e3:=val_drop hi
 have e4:=val_drop (l:=b) (i:=i) (by omega)
 rw[hd] at e3
 have e5:=val_take_lt ha (show i≤a.length by omega)
 have e6:4294967296 ^ i*(val (a.drop i)+1)≤4294967296 ^ i*val (b.drop i):=Nat.mul_le_mul_left _ (by omega)
 rw[Nat.mul_add,Nat.mul_one] at e6
 omega
theorem canon_lt_of_len {A B:Nat} (h:(canon A).length<(canon B).length):A<B:=by
 rcases Nat.lt_or_ge A B with g|g
 ·exact g
 ·have h1:=val_lt _ (lb_canon A)
  rw[val_canon] at h1
  have:=canon_len (canon A).length B (by omega)
  omega
end Wd
namespace Wd
open Go.RowKit Lw

theorem add32 (x y c:Nat) (w:World) (hx:x<4294967296) (hy:y<4294967296) (hc:c≤1) :
  Calls Tryz.prog 234 #[.int .u32 (x:Int), .int .u32 (y:Int), .int .u32 (c:Int)] w fun e w'=>e = .returned (.tuple #[.int .u32 (((x+y+c) % 4294967296:Nat):Int), .int .u32 (((x+y+c)/4294967296:Nat):Int)])∧w=w':=by
 go_enter Tryz.func234,Tryz.ntmps234
 go_wp2
 all_goals
  refine bodyPost_ret (results_tmp2 rfl _ _ _) rfl ⟨?_,rfl⟩
  simp
theorem top_bit {n:Nat} (h:n<4294967296):n/2147483648=if n.testBit 31 then 1 else 0:=by
 rw[Nat.testBit_eq_decide_div_mod_eq]
 have:n/2 ^ 31=n/2147483648:=rfl
 rw[this]
 simp only[decide_eq_true_eq]
 split <;> omega
theorem top_dec {n:Nat} (h:n<4294967296):n.testBit 31=decide (2147483648≤n):=by
 rw[Nat.testBit_eq_decide_div_mod_eq]
 have:n/2 ^ 31=n/2147483648:=rfl
 rw[this,decide_eq_decide]
 omega
theorem borrow_nat (x y c:Nat) (hx:x<4294967296) (hy:y<4294967296) (hc:c≤1) :
  (((4294967295 ^^^ x) &&& y) ||| ((4294967295 ^^^ (x ^^^ y)) &&& ((x+4294967296-y-c) % 4294967296)))/2147483648=if x<y+c then 1 else 0:=by
 have hd:(x+4294967296-y-c) % 4294967296<4294967296:=Nat.mod_lt _ (by decide)
 have hM:(4294967295:Nat)<2 ^ 32:=by decide
 have h1:((4294967295 ^^^ x) &&& y)<2 ^ 32:=Nat.and_lt_two_pow _ hy
 have h2:((4294967295 ^^^ (x ^^^ y)) &&& ((x+4294967296-y-c) % 4294967296))<2 ^ 32:=Nat.and_lt_two_pow _ hd
 rw[top_bit (Nat.or_lt_two_pow h1 h2)]
 simp only[Nat.testBit_or,Nat.testBit_and,Nat.testBit_xor,top_dec hx,top_dec hy,top_dec hd,top_dec (show 4294967295<4294967296 by decide)]
 have e:∀ b:Bool,b=decide (x<y+c)→(if b=true then 1 else 0:Nat)=if x<y+c then 1 else 0:=fun b h=>by rw[h];simp
 refine e _ ?_
 by_cases a1:2147483648≤x <;> by_cases a2:2147483648≤y <;> by_cases a3:2147483648≤(x+4294967296-y-c) % 4294967296 <;> simp[a1,a2,a3] <;> omega
theorem borrow_int (x y c:Nat) (hx:x<4294967296) (hy:y<4294967296) (hc:c≤1) :
  bits BinOp.or IntKind.u32 (bits BinOp.and IntKind.u32 (bits BinOp.xor IntKind.u32 IntKind.u32.max (x:Int)) (y:Int)) (bits BinOp.and IntKind.u32 (bits BinOp.xor IntKind.u32 IntKind.u32.max (bits BinOp.xor IntKind.u32 (x:Int) (y:Int))) (((x:Int)-(y:Int)-(c:Int)) % 4294967296))/2147483648=if x<y+c then 1 else 0:=by
 have em:IntKind.u32.max=((4294967295:Nat):Int):=by decide
 have ed:((x:Int)-(y:Int)-(c:Int)) % 4294967296=(((x+4294967296-y-c) % 4294967296:Nat):Int):=by omega
 have hM:(4294967295:Nat)<2 ^ 32:=by decide
 have hd:(x+4294967296-y-c) % 4294967296<4294967296:=Nat.mod_lt _ (by decide)
 have hxy:x ^^^ y<2 ^ 32:=Nat.xor_lt_two_pow hx hy
 have h1:((4294967295 ^^^ x) &&& y)<2 ^ 32:=Nat.and_lt_two_pow _ hy
 have h2:((4294967295 ^^^ (x ^^^ y)) &&& ((x+4294967296-y-c) % 4294967296))<2 ^ 32:=Nat.and_lt_two_pow _ hd
 have hb:=borrow_nat x y c hx hy hc
 rw[em,ed,u32_xor_nat _ _ hM hx,u32_and_nat _ _ (Nat.xor_lt_two_pow hM hx) hy,u32_xor_nat _ _ hx hy,u32_xor_nat _ _ hM hxy,u32_and_nat _ _ (Nat.xor_lt_two_pow hM hxy) hd,u32_or_nat _ _ h1 h2]
 generalize (((4294967295 ^^^ x) &&& y) ||| ((4294967295 ^^^ (x ^^^ y)) &&& ((x+4294967296-y-c) % 4294967296)))=N at hb
 by_cases g:x<y+c
 ·rw[if_pos g] at hb ⊢;omega
 ·rw[if_neg g] at hb ⊢;omega
theorem sub32 (x y c:Nat) (w:World) (hx:x<4294967296) (hy:y<4294967296) (hc:c≤1) :
  Calls Tryz.prog 235 #[.int .u32 (x:Int), .int .u32 (y:Int), .int .u32 (c:Int)] w fun e w'=>e = .returned (.tuple #[.int .u32 (((x+4294967296-y-c) % 4294967296:Nat):Int), .int .u32 (if x<y+c then 1 else 0)])∧w=w':=by
 have ed:((x:Int)-(y:Int)-(c:Int)) % 4294967296=((x+4294967296-y-c:Nat):Int) % 4294967296:=by omega
 have HB:=Lib.hid (borrow_int x y c hx hy hc)
 have key:∀ B C:Int,B=C→Ending.returned (.tuple #[.int .u32 (((x:Int)-(y:Int)-(c:Int)) % 4294967296), .int .u32 B])=Ending.returned (.tuple #[.int .u32 (((x+4294967296-y-c:Nat):Int) % 4294967296), .int .u32 C]):=fun B C h=>by rw[h,ed]
 have Key:=Lib.hid key
 clear key ed
 go_enter Tryz.func235,Tryz.ntmps235
 go_wp2
 all_goals
  refine bodyPost_ret (results_tmp2 rfl _ _ _) rfl ⟨?_,rfl⟩
  have hb:=HB.out
  first|rw[if_pos ‹_›] at hb|rw[if_neg ‹_›] at hb
  refine Eq.trans ?_ (Key.out _ _ hb)
  simp
theorem sub32n (x y c:Nat) (w:World) (hx:x<4294967296) (hy:y<4294967296) (hc:c≤1) :
  Calls Tryz.prog 235 #[.int .u32 (x:Int), .int .u32 (y:Int), .int .u32 (c:Int)] w fun e w'=>e = .returned (.tuple #[.int .u32 (((x+4294967296-y-c) % 4294967296:Nat):Int), .int .u32 ((if x<y+c then 1 else 0:Nat):Int)])∧w=w' :=
 (sub32 x y c w hx hy hc).mono fun e w' h=>⟨by rw[h.1];split <;> rfl,h.2⟩
theorem or_sum (h l:Nat) (hh:h<4294967296) (hl:l<4294967296):bits BinOp.or IntKind.u64 ((h:Int)*4294967296) (l:Int)=((h*4294967296+l:Nat):Int):=by
 have e:h*4294967296+l=h*4294967296 ||| l:=by
  have:=Nat.shiftLeft_add_eq_or_of_lt (show l<2 ^ 32 by omega) h
  rwa [Nat.shiftLeft_eq] at this
 have e2:((h:Int)*4294967296)=((h*4294967296:Nat):Int):=by omega
 rw[e2,u64_or_nat _ _ (by omega) (by omega),← e]
theorem div32 (h l y:Nat) (w:World) (hh:h<y) (hl:l<4294967296) (hy:y<4294967296) :
  Calls Tryz.prog 245 #[.int .u32 (h:Int), .int .u32 (l:Int), .int .u32 (y:Int)] w fun e w'=>e = .returned (.tuple #[.int .u32 (((h*4294967296+l)/y:Nat):Int), .int .u32 (((h*4294967296+l) % y:Nat):Int)]) ∧ ∃ n,w'=w.drewN n:=by
 have hq:=quo_lt hh hl
 have hm:(h*4294967296+l) % y<4294967296:=Nat.lt_trans (Nat.mod_lt _ (by omega)) hy
 have r1:=or_sum h l (by omega) hl
 have ht:h*4294967296+l<18446744073709551616:=by omega
 generalize h*4294967296+l=T at *
 have y0:¬ (y:Int)=0:=by omega
 have hr:¬ (y:Int)≤(h:Int):=by omega
 have r2:(T:Int).tdiv (y:Int)=((T/y:Nat):Int):=by rw[Int.tdiv_eq_ediv_of_nonneg (by omega)];rfl
 have r3:(T:Int).tmod (y:Int)=((T % y:Nat):Int):=by rw[Int.tmod_eq_emod_of_nonneg (by omega)];rfl
 generalize T/y=q at *
 generalize T % y=m at *
 have r4:IntKind.u64.wrap (q:Int)=(q:Int):=IntWalk.u64_in _ (by omega)
 have r5:(q:Int) % 4294967296=(q:Int):=by omega
 have r6:(m:Int) % 4294967296=(m:Int):=by omega
 go_enter Tryz.func245,Tryz.ntmps245
 go_wp2
 go_quiet (fail)
 go_wp2
 exact bodyPost_ret (results_tmp2 rfl _ _ _) rfl ⟨rfl,nq,rfl⟩
end Wd
namespace Wd
open Go.RowKit Lw

theorem plus_walk (a b:List Nat) (A D:Option Addr) (na ca nb cb:Nat) (w:World) (hA:Lim w A na ca a) (hD:Lim w D nb cb b) (hn:na+1≤1000000) (hle:nb≤na) :
  Calls Tryz.prog 213 #[.slice A na ca, .slice D nb cb] w (FreshPost w (na+1) fun L=>val L=val a+val b):=by
 have la:=hA.len
 have lb:=hD.len
 have HA:=Lib.hid hA
 have HD:=Lib.hid hD
 clear hA hD
 have hmk:∀ w,(Instr.makeSlice 64 (.int .i64 ((na:Int)+1)) (.int .i64 ((na:Int)+1))).run Tryz.prog w = .ok (.slice (some ⟨w.heap.size,0,none⟩) (na+1) (na+1)) (w.alloc (.cells (nu (na+1)) 170)):=fun w=>by
  have:=make_nu (na+1) hn w
  rwa [Int.natCast_add] at this
 have hlt:¬ (na:Int)<(nb:Int):=by omega
 go_enter Tryz.func213,Tryz.ntmps213
 go_wp2
 have st:PIn a b (List.replicate (na+1) 0) 0 0:=by rw[← la];exact PIn.zero a b
 have hA0:=Arr.nu w (na+1)
 have hB0:=(Below.refl w.heap.size w).alloc (Nat.le_refl _) (.cells (nu (na+1)) 170)
 clear hmk hlt
 go_loopw [6,23] (fun c i wr=>∃ (k cc:Nat) (L:List Nat),k≤na∧i = .int .i64 k∧c = .int .u32 cc∧PIn a b L k cc∧Arr wr w.heap.size L∧Below w.heap.size w wr) (fun _ i _=>na-(intOf i).toNat)
 case atStart=>exact⟨0,0,_,by omega,rfl,rfl,st,hA0,hB0⟩
 case round =>
  clear hA0 hB0 st
  obtain⟨i,c,L,hi,rfl,rfl,hT,hR,hB⟩:=hrel
  have hLl:=hT.len
  by_cases hlt:i<na
  ·have hAw:=HA.out.below hB
   obtain⟨bA,oA,rfl, -, -⟩:=hAw.row (by omega)
   have cA:=hAw.cell (k:=i) (by omega)
   have i1:(i:Int)<(na:Int):=by omega
   have i2:(i:Int)<(na:Int)+1:=by omega
   have xb:=lb_get hAw.lb (k:=i) (by omega)
   have ps:=hT.step (by omega) hAw.lb (HD.out.below hB).lb
   have yb:=at0_lt HD.out.lb i
   have cb:=hT.c1
   have fL:=hR.free i
   have cL:=hR.cell (k:=i) (by omega)
   generalize a[i]'(by omega)=x at cA xb ps
   by_cases hib:i<nb
   ·have hDw:=HD.out.below hB
    obtain⟨bD,oD,rfl, -, -⟩:=hDw.row (by omega)
    have cD:=hDw.cell (k:=i) (by omega)
    have j1:(i:Int)<(nb:Int):=by omega
    rw[at0_in (by omega)] at ps yb
    generalize b[i]'(by omega)=y at cD ps yb
    have ac:=fun w=>add32 x y c w xb yb cb
    generalize (x+y+c) % 4294967296=v at ac ps
    generalize (x+y+c)/4294967296=k at ac ps
    have rs:=hR.set i v
    have bs:Below w.heap.size w (wr.setCell ⟨w.heap.size,i,none⟩ (.int .u32 (v:Int))):=hB.setCell (p:=⟨w.heap.size,i,none⟩) (Nat.le_refl _) _
    have fin:∃ (k' c':Nat) (L':List Nat),k'≤na∧Value.int .i64 ((i:Int)+1) = .int .i64 (k':Int)∧Value.int .u32 (k:Int) = .int .u32 (c':Int)∧PIn a b L' k' c'∧Arr (wr.setCell ⟨w.heap.size,i,none⟩ (.int .u32 (v:Int))) w.heap.size L'∧Below w.heap.size w (wr.setCell ⟨w.heap.size,i,none⟩ (.int .u32 (v:Int))) :=
     ⟨i+1,k,_,by omega,by simp,rfl,ps,rs,bs⟩
    have Fin:=Lib.hid fin
    clear fin rs bs ps hT hR hB hAw hDw xb yb cb
    go_wp2_with (go_at_call 234;refine(ac _).mono ?_;rintro e w' ⟨rfl,rfl⟩)
    go_roundw
    case rel=>exact Fin.out
    case measure=>simp[intOf];omega
   ·have j1:¬ (i:Int)<(nb:Int):=by omega
    rw[at0_out (by omega)] at ps
    have ac:∀ w,Calls Tryz.prog 234 #[.int .u32 (x:Int), .int .u32 0, .int .u32 (c:Int)] w fun e w'=>e = .returned (.tuple #[.int .u32 (((x+0+c) % 4294967296:Nat):Int), .int .u32 (((x+0+c)/4294967296:Nat):Int)])∧w=w':=fun w=>add32 x 0 c w xb (by decide) cb
    generalize (x+0+c) % 4294967296=v at ac ps
    generalize (x+0+c)/4294967296=k at ac ps
    have rs:=hR.set i v
    have bs:Below w.heap.size w (wr.setCell ⟨w.heap.size,i,none⟩ (.int .u32 (v:Int))):=hB.setCell (p:=⟨w.heap.size,i,none⟩) (Nat.le_refl _) _
    have fin:∃ (k' c':Nat) (L':List Nat),k'≤na∧Value.int .i64 ((i:Int)+1) = .int .i64 (k':Int)∧Value.int .u32 (k:Int) = .int .u32 (c':Int)∧PIn a b L' k' c'∧Arr (wr.setCell ⟨w.heap.size,i,none⟩ (.int .u32 (v:Int))) w.heap.size L'∧Below w.heap.size w (wr.setCell ⟨w.heap.size,i,none⟩ (.int .u32 (v:Int))) :=
     ⟨i+1,k,_,by omega,by simp,rfl,ps,rs,bs⟩
    have Fin:=Lib.hid fin
    clear fin rs bs ps hT hR hB hAw xb yb cb
    go_wp2_with (go_at_call 234;refine(ac _).mono ?_;rintro e w' ⟨rfl,rfl⟩)
    go_roundw
    case rel=>exact Fin.out
    case measure=>simp[intOf];omega
  ·obtain rfl:i=na:=by omega
   have fL:=hR.free i
   have cL:=hR.cell (k:=i) (by omega)
   have rs:=hR.set i c
   have bs:Below w.heap.size w (wr.setCell ⟨w.heap.size,i,none⟩ (.int .u32 (c:Int))):=hB.setCell (p:=⟨w.heap.size,i,none⟩) (Nat.le_refl _) _
   have tf:val (L.set i c)=val a+val b∧Lb (L.set i c):=by rw[← la] at hT ⊢;exact hT.fin (by omega)
   have fin:FreshPost w (i+1) (fun L=>val L=val a+val b) (.returned (.slice (some ⟨w.heap.size,0,none⟩) (i+1) (i+1))) (wr.setCell ⟨w.heap.size,i,none⟩ (.int .u32 (c:Int))) :=
    ⟨_,rfl,by simp;omega,tf.2,tf.1,rs,bs⟩
   have Fin:=Lib.hid fin
   clear fin rs bs tf hT hR hB
   go_wp2
   refine bodyPost_ret (results_tmp rfl _ _ _) rfl ?_
   exact Fin.out
theorem minus_walk (a b:List Nat) (A D:Option Addr) (na ca nb cb:Nat) (w:World) (hA:Lim w A na ca a) (hD:Lim w D nb cb b) (hle:nb≤na) (hv:val b≤val a) :
  Calls Tryz.prog 214 #[.slice A na ca, .slice D nb cb] w (FreshPost w na fun L=>val L=val a-val b):=by
 have la:=hA.len
 have lb:=hD.len
 have hsm:=hA.sm
 have hmk:=make_nu na hsm
 have HA:=Lib.hid hA
 have HD:=Lib.hid hD
 clear hA hD
 go_enter Tryz.func214,Tryz.ntmps214
 go_wp2
 have st:MIn a b (List.replicate na 0) 0 0:=by rw[← la];exact MIn.zero a b
 have hA0:=Arr.nu w na
 have hB0:=(Below.refl w.heap.size w).alloc (Nat.le_refl _) (.cells (nu na) 170)
 clear hmk
 go_loopw [6,15] (fun c i wr=>∃ (k cc:Nat) (L:List Nat),k≤na∧i = .int .i64 k∧c = .int .u32 cc∧MIn a b L k cc∧Arr wr w.heap.size L∧Below w.heap.size w wr) (fun _ i _=>na-(intOf i).toNat)
 case atStart=>exact⟨0,0,_,by omega,rfl,rfl,st,hA0,hB0⟩
 case round =>
  clear hA0 hB0 st
  obtain⟨i,c,L,hi,rfl,rfl,hT,hR,hB⟩:=hrel
  have hLl:=hT.len
  by_cases hlt:i<na
  ·have hAw:=HA.out.below hB
   obtain⟨bA,oA,rfl, -, -⟩:=hAw.row (by omega)
   have cA:=hAw.cell (k:=i) (by omega)
   have i1:(i:Int)<(na:Int):=by omega
   have xb:=lb_get hAw.lb (k:=i) (by omega)
   have ps:=hT.step (by omega) hAw.lb (HD.out.below hB).lb
   have yb:=at0_lt HD.out.lb i
   have cb:=hT.c1
   have fL:=hR.free i
   have cL:=hR.cell (k:=i) (by omega)
   generalize a[i]'(by omega)=x at cA xb ps
   by_cases hib:i<nb
   ·have hDw:=HD.out.below hB
    obtain⟨bD,oD,rfl, -, -⟩:=hDw.row (by omega)
    have cD:=hDw.cell (k:=i) (by omega)
    have j1:(i:Int)<(nb:Int):=by omega
    rw[at0_in (by omega)] at ps yb
    generalize b[i]'(by omega)=y at cD ps yb
    have ac:∀ w,Calls Tryz.prog 235 #[.int .u32 (x:Int), .int .u32 (y:Int), .int .u32 (c:Int)] w fun e w'=>e = .returned (.tuple #[.int .u32 (((x+4294967296-y-c) % 4294967296:Nat):Int), .int .u32 ((if x<y+c then 1 else 0:Nat):Int)])∧w=w':=fun w=>sub32n x y c w xb yb cb
    generalize (x+4294967296-y-c) % 4294967296=v at ac ps
    generalize (if x<y+c then 1 else 0:Nat)=k at ac ps
    have rs:=hR.set i v
    have bs:Below w.heap.size w (wr.setCell ⟨w.heap.size,i,none⟩ (.int .u32 (v:Int))):=hB.setCell (p:=⟨w.heap.size,i,none⟩) (Nat.le_refl _) _
    have fin:∃ (k' c':Nat) (L':List Nat),k'≤na∧Value.int .i64 ((i:Int)+1) = .int .i64 (k':Int)∧Value.int .u32 (k:Int) = .int .u32 (c':Int)∧MIn a b L' k' c'∧Arr (wr.setCell ⟨w.heap.size,i,none⟩ (.int .u32 (v:Int))) w.heap.size L'∧Below w.heap.size w (wr.setCell ⟨w.heap.size,i,none⟩ (.int .u32 (v:Int))) :=
     ⟨i+1,k,_,by omega,by simp,rfl,ps,rs,bs⟩
    have Fin:=Lib.hid fin
    clear fin rs bs ps hT hR hB hAw hDw xb yb cb
    go_wp2_with (go_at_call 235;refine(ac _).mono ?_;rintro e w' ⟨rfl,rfl⟩)
    go_roundw
    case rel=>exact Fin.out
    case measure=>simp[intOf];omega
   ·have j1:¬ (i:Int)<(nb:Int):=by omega
    rw[at0_out (by omega)] at ps
    have ac:∀ w,Calls Tryz.prog 235 #[.int .u32 (x:Int), .int .u32 0, .int .u32 (c:Int)] w fun e w'=>e = .returned (.tuple #[.int .u32 (((x+4294967296-0-c) % 4294967296:Nat):Int), .int .u32 ((if x<0+c then 1 else 0:Nat):Int)])∧w=w':=fun w=>sub32n x 0 c w xb (by decide) cb
    generalize (x+4294967296-0-c) % 4294967296=v at ac ps
    generalize (if x<0+c then 1 else 0:Nat)=k at ac ps
    have rs:=hR.set i v
    have bs:Below w.heap.size w (wr.setCell ⟨w.heap.size,i,none⟩ (.int .u32 (v:Int))):=hB.setCell (p:=⟨w.heap.size,i,none⟩) (Nat.le_refl _) _
    have fin:∃ (k' c':Nat) (L':List Nat),k'≤na∧Value.int .i64 ((i:Int)+1) = .int .i64 (k':Int)∧Value.int .u32 (k:Int) = .int .u32 (c':Int)∧MIn a b L' k' c'∧Arr (wr.setCell ⟨w.heap.size,i,none⟩ (.int .u32 (v:Int))) w.heap.size L'∧Below w.heap.size w (wr.setCell ⟨w.heap.size,i,none⟩ (.int .u32 (v:Int))) :=
     ⟨i+1,k,_,by omega,by simp,rfl,ps,rs,bs⟩
    have Fin:=Lib.hid fin
    clear fin rs bs ps hT hR hB hAw xb yb cb
    go_wp2_with (go_at_call 235;refine(ac _).mono ?_;rintro e w' ⟨rfl,rfl⟩)
    go_roundw
    case rel=>exact Fin.out
    case measure=>simp[intOf];omega
  ·obtain rfl:i=na:=by omega
   have tf:val L=val a-val b:=by rw[← la] at hT;exact hT.fin (by omega) hv
   go_wp2
   exact bodyPost_ret (results_tmp rfl _ _ _) rfl ⟨L,rfl,by omega,hT.lb,tf,hR,hB⟩
end Wd
end Go.Proofs.YtdnogmanbdgadaaGreatDoor
