/- SHA-256, in plain words: as the walks show it. -/
import Derived.WalkKit
namespace Go.Proofs.YtclndenmmhdokaaDoor
open Go
set_option linter.unusedVariables false
namespace Sha

/-- A word turned right. -/
def rot (N : Int) (x : Int) : Int := bits .or .u32 (x * 2 ^ (32 - (-N).toNat) % 4294967296) (x / 2 ^ (-N).toNat)
def x2 (a b : Int) : Int := bits .xor .u32 a b
def add (a b : Int) : Int := (a + b) % 4294967296
/-- The next word. -/
def nxt (l : List Int) (i : Nat) : Int :=
  add (add (add (l.getD (i - 16) 0) (x2 (x2 (rot (-7) (l.getD (i - 15) 0)) (rot (-18) (l.getD (i - 15) 0))) (l.getD (i - 15) 0 / 8))) (l.getD (i - 7) 0)) (x2 (x2 (rot (-17) (l.getD (i - 2) 0)) (rot (-19) (l.getD (i - 2) 0))) (l.getD (i - 2) 0 / 1024))
/-- The 64 words, of which k were made. -/
def sched (m : List Int) : Nat → List Int
  | 0 => m ++ List.replicate 48 0
  | k + 1 => (sched m k).set (16 + k) (nxt (sched m k) (16 + k))
/-- A state. -/
structure V8 where
  (a b c d e f g h : Int)
deriving DecidableEq
/-- The 64 constants. -/
def K : List Int := [1116352408, 1899447441, 3049323471, 3921009573, 961987163, 1508970993, 2453635748, 2870763221,
  3624381080, 310598401, 607225278, 1426881987, 1925078388, 2162078206, 2614888103, 3248222580,
  3835390401, 4022224774, 264347078, 604807628, 770255983, 1249150122, 1555081692, 1996064986,
  2554220882, 2821834349, 2952996808, 3210313671, 3336571891, 3584528711, 113926993, 338241895,
  666307205, 773529912, 1294757372, 1396182291, 1695183700, 1986661051, 2177026350, 2456956037,
  2730485921, 2820302411, 3259730800, 3345764771, 3516065817, 3600352804, 4094571909, 275423344,
  430227734, 506948616, 659060556, 883997877, 958139571, 1322822218, 1537002063, 1747873779,
  1955562222, 2024104815, 2227730452, 2361852424, 2428436474, 2756734187, 3204031479, 3329325298]
def t1 (v : V8) (k w : Int) : Int := add (add (add (add v.h (x2 (x2 (rot (-6) v.e) (rot (-11) v.e)) (rot (-25) v.e))) (x2 (bits .and .u32 v.e v.f) (bits .and .u32 (bits .xor .u32 IntKind.u32.max v.e) v.g))) k) w
def t2 (v : V8) : Int := x2 (x2 (rot (-2) v.a) (rot (-13) v.a)) (rot (-22) v.a)
def t3 (v : V8) : Int := x2 (x2 (bits .and .u32 v.a v.b) (bits .and .u32 v.a v.c)) (bits .and .u32 v.b v.c)
/-- A round. -/
def rnd (v : V8) (k w : Int) : V8 := ⟨add (add (t1 v k w) (t2 v)) (t3 v), v.a, v.b, v.c, add v.d (t1 v k w), v.e, v.f, v.g⟩
def rounds (v : V8) (ws : List Int) : Nat → V8
  | 0 => v
  | k + 1 => rnd (rounds v ws k) (K.getD k 0) (ws.getD k 0)
def sum8 (v u : V8) : V8 := ⟨add v.a u.a, add v.b u.b, add v.c u.c, add v.d u.d, add v.e u.e, add v.f u.f, add v.g u.g, add v.h u.h⟩
/-- Four bytes as a word. -/
def word (b : List Int) (i : Nat) : Int :=
  bits .or .u32 (bits .or .u32 (bits .or .u32 (b.getD (4 * i) 0 * 16777216 % 4294967296) (b.getD (4 * i + 1) 0 * 65536 % 4294967296)) (b.getD (4 * i + 2) 0 * 256 % 4294967296)) (b.getD (4 * i + 3) 0)
def wordsOf (b : List Int) : List Int := (List.range 16).map (word b)
/-- A state behind 64 bytes. -/
def block (v : V8) (b : List Int) : V8 := sum8 v (rounds v (sched (wordsOf b) 48) 64)
def H0 : V8 := ⟨1779033703, 3144134277, 1013904242, 2773480762, 1359893119, 2600822924, 528734635, 1541459225⟩
def V8.list (v : V8) : List Int := [v.a, v.b, v.c, v.d, v.e, v.f, v.g, v.h]
theorem V8.list_length (v : V8) : v.list.length = 8 := rfl
theorem sched_length (m : List Int) (h : m.length = 16) : ∀ k, (sched m k).length = 64
  | 0 => by simp [sched, h]
  | k + 1 => by rw [sched, List.length_set]; exact sched_length m h k
theorem wordsOf_length (b : List Int) : (wordsOf b).length = 16 := by simp [wordsOf]
end Sha
end Go.Proofs.YtclndenmmhdokaaDoor
