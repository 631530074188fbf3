/-
  Next of both, for any list, year and half-month; and the law.
-/
import Derived.Test.YtdjndoafnoidbaaDoorDNext2
import Derived.Test.YtdjndoafnoidbaaDoorDRNext2
import Derived.Test.YtdjndoafnoidbaaDoorDRNextE
import Derived.Test.YtdjndoafnoidbaaDoorDSlice
import Derived.Test.YtdjndoafnoidbaaDoorDLaw
namespace Go.Proofs.YtdjndoafnoidbaaDoor
namespace Dw
open Go.RowKit Dp Lw

theorem Lst.below {w w' : World} {b off n : Nat} {L : Ls} (h : Lst w b off n L) (hb : Below w.heap.size w w') : Lst w' b off n L :=
  ⟨fun k hk => rangeAt_below (h.row k hk) hb h.lt, Nat.lt_of_lt_of_le h.lt hb.size, h.u0, h.u1, h.s0, h.s1⟩
theorem next_any (L : Ls) (x : Option Addr) (n cap : Nat) (y h : Int) (w : World) (hT : Tab w) (hl : n = 0 ∨ ∃ b off, x = some ⟨b, off, none⟩ ∧ Lst w b off n L) (h0 : 0 ≤ h) (h1 : h < 256) (hm : n ≤ 9223372036854775807) :
    Calls Tryd.prog 14 #[.slice x n cap, .int .i64 y, .int .u8 h] w (NextPost L n y h w) := by
  by_cases g : 1800 ≤ y ∧ y ≤ 2099 ∧ halfP h
  · obtain ⟨y1, y2, hp⟩ := g
    rcases hl with rfl | ⟨b, off, rfl, hL⟩
    · exact next_empty L x cap y h w hT h0 h1 y1 y2 hp
    · by_cases hn : n ≤ 1000
      · exact next_list L b off n cap y h w hT hL h0 h1 y1 y2 hp hn
      · exact next_many L _ n cap y h w hT h0 h1 y1 y2 hp (by omega) hm
  · exact next_arg L x n cap y h w hT h0 h1 g
theorem rnext_any (L : Ls) (x : Option Addr) (n cap : Nat) (y h : Int) (w : World) (hl : n = 0 ∨ ∃ b off, x = some ⟨b, off, none⟩ ∧ Lst w b off n L) (h0 : 0 ≤ h) (h1 : h < 256) (hm : n ≤ 9223372036854775807) :
    Calls Tryd.prog 15 #[.slice x n cap, .int .i64 y, .int .u8 h] w (RNextPost L n y h w) := by
  by_cases g : 1800 ≤ y ∧ y ≤ 2099 ∧ halfP h
  · obtain ⟨y1, y2, hp⟩ := g
    rcases hl with rfl | ⟨b, off, rfl, hL⟩
    · exact rnext_empty L x cap y h w y1 y2 hp
    · by_cases hn : n ≤ 1000
      · exact rnext_list L b off n cap y h w hL h0 h1 y1 y2 hp hn
      · exact rnext_many L _ n cap y h w y1 y2 hp (by omega) hm
  · exact rnext_arg L x n cap y h w g
theorem law (n y u s c n' y' u' s' c' : Int) (x : Option Addr) (len cap : Nat) (yy dd hf : Int) (w : World) (hT : Tab w)
    (h0 : 0 ≤ u ∧ u ≤ 255) (s0 : 0 ≤ s ∧ s ≤ 255) (h0' : 0 ≤ u' ∧ u' ≤ 255) (s0' : 0 ≤ s' ∧ s' ≤ 255) (hh : 0 ≤ hf ∧ hf ≤ 255) (hm : len ≤ 9223372036854775807)
    (hl : len = 0 ∨ ∃ b off L, x = some ⟨b, off, none⟩ ∧ Lst w b off len L) :
    Calls Tryd.prog 3 #[.agg #[.int .i64 n, .int .i64 y, .int .u8 u, .int .u8 s, .int .i64 c], .agg #[.int .i64 n', .int .i64 y', .int .u8 u', .int .u8 s', .int .i64 c'], .slice x len cap, .int .i64 yy, .int .i64 dd, .int .u8 hf] w fun e w' => e = .returned (.bool true) ∧ Below w.heap.size w w' := by
  have key : ∃ L : Ls, len = 0 ∨ ∃ b off, x = some ⟨b, off, none⟩ ∧ Lst w b off len L := by
    rcases hl with h | ⟨b, off, L, h⟩
    · exact ⟨⟨fun _ => 0, fun _ => 0, fun _ => 0, fun _ => 0, fun _ => 0⟩, Or.inl h⟩
    · exact ⟨L, Or.inr ⟨b, off, h⟩⟩
  obtain ⟨L, hl⟩ := key
  have hl' : ∀ w', Below w.heap.size w w' → (len = 0 ∨ ∃ b off, x = some ⟨b, off, none⟩ ∧ Lst w' b off len L) := fun w' hb => by
    rcases hl with h | ⟨b, off, h, hL⟩
    · exact Or.inl h
    · exact Or.inr ⟨b, off, h, hL.below hb⟩
  exact law_any n y u s c n' y' u' s' c' x len cap yy dd hf L w hT h0.1 (by omega) s0.1 (by omega) h0'.1 (by omega) s0'.1 (by omega) hm
    (fun w' hb ht => next_any L x len cap yy hf w' ht (hl' w' hb) hh.1 (by omega) hm) (fun w' hb => rnext_any L x len cap yy hf w' (hl' w' hb) hh.1 (by omega) hm)
end Dw
end Go.Proofs.YtdjndoafnoidbaaDoor
