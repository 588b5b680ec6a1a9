/-
  THE BYTES OF A STRING: a row that may be read at the place of a value (its block is no row of the call's own: its tail is marked).
-/
import Derived.Test.YtcmnofbpcmnnhaaDoorWLast
import Derived.Test.YtcmnofbpcmnnhaaDoorWTab
namespace Go.Proofs.YtcmnofbpcmnnhaaDoor.Rb
open Go.RowKit Go.Proofs.YtcmnofbpcmnnhaaDoorW.PrintWords Go.Proofs.YtcmnofbpcmnnhaaDoorW.PrintLast
/-- The value is a row of these bytes. -/
def B (w : World) (v : Value) (xs : List Int) : Prop := ∃ A c, v = .slice A xs.length c ∧ Kd.C (Kd.int .u8) w A xs.length xs
variable {w w1 : World} {v : Value} {xs : List Int}
theorem B_below (h : B w v xs) (hb : Below w.heap.size w w1) : B w1 v xs := by
  obtain ⟨A, c, hv, hc⟩ := h
  exact ⟨A, c, hv, Kd.C_below hc hb⟩
theorem B_alloc (h : B w v xs) (o : Obj) : B (w.alloc o) v xs := B_below h (below_alloc (Below.refl _ _) o)
theorem B_drew (h : B w v xs) : B w.drew v xs := B_below h (below_drew (Below.refl _ _))
theorem B_drewN (h : B w v xs) (m : Nat) : B (w.drewN m) v xs := B_below h (pw_below_drewN (Below.refl _ _) m)
theorem B_nil (w : World) : B w (.slice none 0 0) [] := ⟨none, 0, rfl, Kd.C_nil _ w⟩
theorem B_of_R {e base : Nat} {ok : Nat → Prop} (h : Kd.R (Kd.int .u8) e w base ok v xs) : B w v xs := by
  obtain ⟨A, c, rfl⟩ := Kd.R_slice h
  exact ⟨A, c, rfl, (Kd.R_reads' h).2.2⟩
theorem B_string {P : Program} {src dst e : TypeId} (hs : P.underlying src = some (.slice e)) (he : P.underlying e = some (.int .u8)) (hd : P.underlying dst = some .string) (h : B w v xs) : (convert src dst v).run P w = .ok (.string (strOfNums xs)) w := by
  obtain ⟨A, c, rfl, hc⟩ := h
  exact Kd.C_string hs he hd hc
theorem B_bytes (W : World) (e : TypeId) (s : ByteArray) (hs : s.size ≤ 9223372036854775807) (cap : Nat) : B (Lib.bytesWorld W e s) (.slice (some ⟨W.heap.size, 0, none⟩) s.size cap) (bytesOf s) :=
  ⟨_, cap, by rw [bytesOf_length], by rw [bytesOf_length]; exact Kd.C_of_reads (h1 := fun _ => rfl) (bytes_reads W e s hs)⟩
end Go.Proofs.YtcmnofbpcmnnhaaDoor.Rb
