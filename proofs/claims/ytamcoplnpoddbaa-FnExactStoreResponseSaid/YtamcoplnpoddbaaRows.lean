/-
  No cell of these rows narrows 'for every input' (looked for: loops, veiled, ifaces, maps, wideKeys, modest, calm, conditions, laid).
  DERIVED. THE GIVEN ROWS OF THIS SEAT. 12 by the template 'for every input the law returns true; each argument reads behind the call as it read before'; 0 by the template 'total and deterministic' (their statements: YtamcoplnpoddbaaTotals.lean).
  GIVEN WITH THE SEED: the statements are not yours to turn. If you find one false, say at which input.
  Laid BY PROGRAM, IN A SANDBOX (cutbox-rows.mjs): the forced cells as the released guide's own fill.sh prints them over the translation 5c48acbf893f2845… (all of the seat's roots in one cut). By AI agents, Wed Nov 11 2026. No macro, syntax, notation, axiom, sorry.
-/
import Derived.Test.YtamcoplnpoddbaaChecked
import GoSem.Claim
import GoSem.ClaimJoined
import GoSem.ClaimMapViews
import Derived.JoinedTies
import Derived.KernelRfl
namespace Go.Proofs.Ytamcoplnpoddbaa
/- THE CELL 'sum', in the pinned program and in every row, IS THE sha256 OF THE DUMP (.gsa) THAT YtamcoplnpoddbaaProg.lean LOADS. Nothing in Lean hashes anything: it is a label: what it is worth is what the hold of that sum in a sandbox is worth. -/
noncomputable def Try.pinned : Pinned := { name := "ytamcoplnpoddbaa", sum := "5c48acbf893f284549d6a038eb07b1301fefec2e02a9a0472aff45a061a44e0d", checked := Try.checked }
namespace Rows
def none {H : Type} : Left H := { results := [], args := [] }

/-- 'laws.FnExactCanRead': WHATEVER THE INPUT: true; the input reads as it did. -/
def fnExactCanReadSpec : ChangeSpec := { name := "fnExactCanRead", fn := fun _ => fun
  | [d1, d2] => { results := [.lit (.bool true)], args := [d1, d2] }
  | _ => none }
def fnExactCanReadRow : OpenClaim := { program := "ytamcoplnpoddbaa", sum := "5c48acbf893f284549d6a038eb07b1301fefec2e02a9a0472aff45a061a44e0d", func := "loop.example/g00583/laws.FnExactCanRead", spec := "fnExactCanRead", apart := false }
def FnExactCanReadSaid : Prop := fnExactCanReadRow.holds Try.pinned (OpenSpec.ofChange fnExactCanReadSpec)

/-- ITS FALSE NEIGHBOUR: 'it returns false'. Refute it at one input. -/
def fnExactCanReadWrong : ChangeSpec := { name := "fnExactCanRead", fn := fun _ => fun
  | [d1, d2] => { results := [.lit (.bool false)], args := [d1, d2] }
  | _ => none }
def FnExactCanReadWrongFalsely : Prop := fnExactCanReadRow.holds Try.pinned (OpenSpec.ofChange fnExactCanReadWrong)

/-- 'laws.FnFilters': WHATEVER THE INPUT: true; the input reads as it did. -/
def fnFiltersSpec : ChangeSpec := { name := "fnFilters", fn := fun _ => fun
  | [d] => { results := [.lit (.bool true)], args := [d] }
  | _ => none }
def fnFiltersRow : OpenClaim := { program := "ytamcoplnpoddbaa", sum := "5c48acbf893f284549d6a038eb07b1301fefec2e02a9a0472aff45a061a44e0d", func := "loop.example/g00583/laws.FnFilters", spec := "fnFilters", apart := false }
def FnFiltersSaid : Prop := fnFiltersRow.holds Try.pinned (OpenSpec.ofChange fnFiltersSpec)

/-- ITS FALSE NEIGHBOUR: 'it returns false'. Refute it at one input. -/
def fnFiltersWrong : ChangeSpec := { name := "fnFilters", fn := fun _ => fun
  | [d] => { results := [.lit (.bool false)], args := [d] }
  | _ => none }
def FnFiltersWrongFalsely : Prop := fnFiltersRow.holds Try.pinned (OpenSpec.ofChange fnFiltersWrong)

/-- 'laws.FnExactFilterResponse': WHATEVER THE INPUT: true; the input reads as it did. -/
def fnExactFilterResponseSpec : ChangeSpec := { name := "fnExactFilterResponse", fn := fun _ => fun
  | [d1, d2] => { results := [.lit (.bool true)], args := [d1, d2] }
  | _ => none }
def fnExactFilterResponseRow : OpenClaim := { program := "ytamcoplnpoddbaa", sum := "5c48acbf893f284549d6a038eb07b1301fefec2e02a9a0472aff45a061a44e0d", func := "loop.example/g00583/laws.FnExactFilterResponse", spec := "fnExactFilterResponse", apart := false }
def FnExactFilterResponseSaid : Prop := fnExactFilterResponseRow.holds Try.pinned (OpenSpec.ofChange fnExactFilterResponseSpec)

/-- ITS FALSE NEIGHBOUR: 'it returns false'. Refute it at one input. -/
def fnExactFilterResponseWrong : ChangeSpec := { name := "fnExactFilterResponse", fn := fun _ => fun
  | [d1, d2] => { results := [.lit (.bool false)], args := [d1, d2] }
  | _ => none }
def FnExactFilterResponseWrongFalsely : Prop := fnExactFilterResponseRow.holds Try.pinned (OpenSpec.ofChange fnExactFilterResponseWrong)

/-- 'laws.FnExactFindCache': WHATEVER THE INPUT: true; the input reads as it did. -/
def fnExactFindCacheSpec : ChangeSpec := { name := "fnExactFindCache", fn := fun _ => fun
  | [d1, d2] => { results := [.lit (.bool true)], args := [d1, d2] }
  | _ => none }
def fnExactFindCacheRow : OpenClaim := { program := "ytamcoplnpoddbaa", sum := "5c48acbf893f284549d6a038eb07b1301fefec2e02a9a0472aff45a061a44e0d", func := "loop.example/g00583/laws.FnExactFindCache", spec := "fnExactFindCache", unfollowed := true, recurses := true, apart := false }
def FnExactFindCacheSaid : Prop := fnExactFindCacheRow.holds Try.pinned (OpenSpec.ofChange fnExactFindCacheSpec)

/-- ITS FALSE NEIGHBOUR: 'it returns false'. Refute it at one input. -/
def fnExactFindCacheWrong : ChangeSpec := { name := "fnExactFindCache", fn := fun _ => fun
  | [d1, d2] => { results := [.lit (.bool false)], args := [d1, d2] }
  | _ => none }
def FnExactFindCacheWrongFalsely : Prop := fnExactFindCacheRow.holds Try.pinned (OpenSpec.ofChange fnExactFindCacheWrong)

/-- 'laws.FnExactSizeCaches': WHATEVER THE INPUT: true; the input reads as it did. -/
def fnExactSizeCachesSpec : ChangeSpec := { name := "fnExactSizeCaches", fn := fun _ => fun
  | [d] => { results := [.lit (.bool true)], args := [d] }
  | _ => none }
def fnExactSizeCachesRow : OpenClaim := { program := "ytamcoplnpoddbaa", sum := "5c48acbf893f284549d6a038eb07b1301fefec2e02a9a0472aff45a061a44e0d", func := "loop.example/g00583/laws.FnExactSizeCaches", spec := "fnExactSizeCaches", apart := false }
def FnExactSizeCachesSaid : Prop := fnExactSizeCachesRow.holds Try.pinned (OpenSpec.ofChange fnExactSizeCachesSpec)

/-- ITS FALSE NEIGHBOUR: 'it returns false'. Refute it at one input. -/
def fnExactSizeCachesWrong : ChangeSpec := { name := "fnExactSizeCaches", fn := fun _ => fun
  | [d] => { results := [.lit (.bool false)], args := [d] }
  | _ => none }
def FnExactSizeCachesWrongFalsely : Prop := fnExactSizeCachesRow.holds Try.pinned (OpenSpec.ofChange fnExactSizeCachesWrong)

/-- 'laws.FnExactEqualCacheSets': WHATEVER THE INPUT: true; the input reads as it did. -/
def fnExactEqualCacheSetsSpec : ChangeSpec := { name := "fnExactEqualCacheSets", fn := fun _ => fun
  | [d1, d2] => { results := [.lit (.bool true)], args := [d1, d2] }
  | _ => none }
def fnExactEqualCacheSetsRow : OpenClaim := { program := "ytamcoplnpoddbaa", sum := "5c48acbf893f284549d6a038eb07b1301fefec2e02a9a0472aff45a061a44e0d", func := "loop.example/g00583/laws.FnExactEqualCacheSets", spec := "fnExactEqualCacheSets", unfollowed := true, recurses := true, apart := false }
def FnExactEqualCacheSetsSaid : Prop := fnExactEqualCacheSetsRow.holds Try.pinned (OpenSpec.ofChange fnExactEqualCacheSetsSpec)

/-- ITS FALSE NEIGHBOUR: 'it returns false'. Refute it at one input. -/
def fnExactEqualCacheSetsWrong : ChangeSpec := { name := "fnExactEqualCacheSets", fn := fun _ => fun
  | [d1, d2] => { results := [.lit (.bool false)], args := [d1, d2] }
  | _ => none }
def FnExactEqualCacheSetsWrongFalsely : Prop := fnExactEqualCacheSetsRow.holds Try.pinned (OpenSpec.ofChange fnExactEqualCacheSetsWrong)

/-- 'laws.FnExactIsCacheSet': WHATEVER THE INPUT: true; the input reads as it did. -/
def fnExactIsCacheSetSpec : ChangeSpec := { name := "fnExactIsCacheSet", fn := fun _ => fun
  | [d] => { results := [.lit (.bool true)], args := [d] }
  | _ => none }
def fnExactIsCacheSetRow : OpenClaim := { program := "ytamcoplnpoddbaa", sum := "5c48acbf893f284549d6a038eb07b1301fefec2e02a9a0472aff45a061a44e0d", func := "loop.example/g00583/laws.FnExactIsCacheSet", spec := "fnExactIsCacheSet", unfollowed := true, recurses := true, apart := false }
def FnExactIsCacheSetSaid : Prop := fnExactIsCacheSetRow.holds Try.pinned (OpenSpec.ofChange fnExactIsCacheSetSpec)

/-- ITS FALSE NEIGHBOUR: 'it returns false'. Refute it at one input. -/
def fnExactIsCacheSetWrong : ChangeSpec := { name := "fnExactIsCacheSet", fn := fun _ => fun
  | [d] => { results := [.lit (.bool false)], args := [d] }
  | _ => none }
def FnExactIsCacheSetWrongFalsely : Prop := fnExactIsCacheSetRow.holds Try.pinned (OpenSpec.ofChange fnExactIsCacheSetWrong)

/-- 'laws.FnExactMatchCache': WHATEVER THE INPUT: true; the input reads as it did. -/
def fnExactMatchCacheSpec : ChangeSpec := { name := "fnExactMatchCache", fn := fun _ => fun
  | [d1, d2, d3, d4] => { results := [.lit (.bool true)], args := [d1, d2, d3, d4] }
  | _ => none }
def fnExactMatchCacheRow : OpenClaim := { program := "ytamcoplnpoddbaa", sum := "5c48acbf893f284549d6a038eb07b1301fefec2e02a9a0472aff45a061a44e0d", func := "loop.example/g00583/laws.FnExactMatchCache", spec := "fnExactMatchCache", unfollowed := true, recurses := true, apart := false }
def FnExactMatchCacheSaid : Prop := fnExactMatchCacheRow.holds Try.pinned (OpenSpec.ofChange fnExactMatchCacheSpec)

/-- ITS FALSE NEIGHBOUR: 'it returns false'. Refute it at one input. -/
def fnExactMatchCacheWrong : ChangeSpec := { name := "fnExactMatchCache", fn := fun _ => fun
  | [d1, d2, d3, d4] => { results := [.lit (.bool false)], args := [d1, d2, d3, d4] }
  | _ => none }
def FnExactMatchCacheWrongFalsely : Prop := fnExactMatchCacheRow.holds Try.pinned (OpenSpec.ofChange fnExactMatchCacheWrong)

/-- 'laws.FnCaches': WHATEVER THE INPUT: true; the input reads as it did. -/
def fnCachesSpec : ChangeSpec := { name := "fnCaches", fn := fun _ => fun
  | [d] => { results := [.lit (.bool true)], args := [d] }
  | _ => none }
def fnCachesRow : OpenClaim := { program := "ytamcoplnpoddbaa", sum := "5c48acbf893f284549d6a038eb07b1301fefec2e02a9a0472aff45a061a44e0d", func := "loop.example/g00583/laws.FnCaches", spec := "fnCaches", unfollowed := true, recurses := true, apart := false }
def FnCachesSaid : Prop := fnCachesRow.holds Try.pinned (OpenSpec.ofChange fnCachesSpec)

/-- ITS FALSE NEIGHBOUR: 'it returns false'. Refute it at one input. -/
def fnCachesWrong : ChangeSpec := { name := "fnCaches", fn := fun _ => fun
  | [d] => { results := [.lit (.bool false)], args := [d] }
  | _ => none }
def FnCachesWrongFalsely : Prop := fnCachesRow.holds Try.pinned (OpenSpec.ofChange fnCachesWrong)

/-- 'laws.FnExactDropCache': WHATEVER THE INPUT: true; the input reads as it did. -/
def fnExactDropCacheSpec : ChangeSpec := { name := "fnExactDropCache", fn := fun _ => fun
  | [d1, d2] => { results := [.lit (.bool true)], args := [d1, d2] }
  | _ => none }
def fnExactDropCacheRow : OpenClaim := { program := "ytamcoplnpoddbaa", sum := "5c48acbf893f284549d6a038eb07b1301fefec2e02a9a0472aff45a061a44e0d", func := "loop.example/g00583/laws.FnExactDropCache", spec := "fnExactDropCache", unfollowed := true, recurses := true, apart := false }
def FnExactDropCacheSaid : Prop := fnExactDropCacheRow.holds Try.pinned (OpenSpec.ofChange fnExactDropCacheSpec)

/-- ITS FALSE NEIGHBOUR: 'it returns false'. Refute it at one input. -/
def fnExactDropCacheWrong : ChangeSpec := { name := "fnExactDropCache", fn := fun _ => fun
  | [d1, d2] => { results := [.lit (.bool false)], args := [d1, d2] }
  | _ => none }
def FnExactDropCacheWrongFalsely : Prop := fnExactDropCacheRow.holds Try.pinned (OpenSpec.ofChange fnExactDropCacheWrong)

/-- 'laws.FnExactStoreResponse': WHATEVER THE INPUT: true; the input reads as it did. -/
def fnExactStoreResponseSpec : ChangeSpec := { name := "fnExactStoreResponse", fn := fun _ => fun
  | [d1, d2, d3, d4, d5] => { results := [.lit (.bool true)], args := [d1, d2, d3, d4, d5] }
  | _ => none }
def fnExactStoreResponseRow : OpenClaim := { program := "ytamcoplnpoddbaa", sum := "5c48acbf893f284549d6a038eb07b1301fefec2e02a9a0472aff45a061a44e0d", func := "loop.example/g00583/laws.FnExactStoreResponse", spec := "fnExactStoreResponse", unfollowed := true, recurses := true, apart := false }
def FnExactStoreResponseSaid : Prop := fnExactStoreResponseRow.holds Try.pinned (OpenSpec.ofChange fnExactStoreResponseSpec)

/-- ITS FALSE NEIGHBOUR: 'it returns false'. Refute it at one input. -/
def fnExactStoreResponseWrong : ChangeSpec := { name := "fnExactStoreResponse", fn := fun _ => fun
  | [d1, d2, d3, d4, d5] => { results := [.lit (.bool false)], args := [d1, d2, d3, d4, d5] }
  | _ => none }
def FnExactStoreResponseWrongFalsely : Prop := fnExactStoreResponseRow.holds Try.pinned (OpenSpec.ofChange fnExactStoreResponseWrong)

/-- 'laws.FnExactOpenCache': WHATEVER THE INPUT: true; the input reads as it did. -/
def fnExactOpenCacheSpec : ChangeSpec := { name := "fnExactOpenCache", fn := fun _ => fun
  | [d1, d2] => { results := [.lit (.bool true)], args := [d1, d2] }
  | _ => none }
def fnExactOpenCacheRow : OpenClaim := { program := "ytamcoplnpoddbaa", sum := "5c48acbf893f284549d6a038eb07b1301fefec2e02a9a0472aff45a061a44e0d", func := "loop.example/g00583/laws.FnExactOpenCache", spec := "fnExactOpenCache", inPlace := ["slices.overlaps[loop.example/g00583/impl.Cache]"], unfollowed := true, recurses := true, apart := false }
def FnExactOpenCacheSaid : Prop := fnExactOpenCacheRow.holds Try.pinned (OpenSpec.ofChange fnExactOpenCacheSpec)

/-- ITS FALSE NEIGHBOUR: 'it returns false'. Refute it at one input. -/
def fnExactOpenCacheWrong : ChangeSpec := { name := "fnExactOpenCache", fn := fun _ => fun
  | [d1, d2] => { results := [.lit (.bool false)], args := [d1, d2] }
  | _ => none }
def FnExactOpenCacheWrongFalsely : Prop := fnExactOpenCacheRow.holds Try.pinned (OpenSpec.ofChange fnExactOpenCacheWrong)

/- THE SECOND FORM. 'bulk': how many values and letters a reading holds, each counted each time it is reached (what is shared counts as often as it is met; a slice's spare places count too). A statement '..UptoSaid' is the law's where the arguments, and the package variables that the reading takes, are together of bulk at most 1048576: NARROWER than '..Said'. Prove '..Said' where nothing that the law and all that it calls make is longer than what came in: it says more and counts as full. Else prove '..UptoSaid'. A law counts once. -/
mutual
def uptoBulk {H : Type} : DataW H → Nat
  | .lit (.string bytes) => bytes.length + 1
  | .lit _ => 1
  | .nil => 1
  | .ptr d => uptoBulk d + 1
  | .slice elems spare => uptoBulkAll elems + uptoBulkAll spare + 1
  | .agg parts => uptoBulkAll parts + 1
  | .iface _ d => uptoBulk d + 1
  | .map entries => uptoBulkEntries entries + 1
  | .held _ => 1
def uptoBulkAll {H : Type} : List (DataW H) → Nat
  | [] => 0
  | d :: r => uptoBulk d + uptoBulkAll r
def uptoBulkEntries {H : Type} : List (Lit × DataW H) → Nat
  | [] => 0
  | x :: r => uptoBulkEntry x + uptoBulkEntries r
def uptoBulkEntry {H : Type} : Lit × DataW H → Nat
  | (.string bytes, d) => bytes.length + uptoBulk d + 1
  | (_, d) => uptoBulk d + 1
 end
def uptoSmall : (H : Type) → List (DataW H) → Bool := fun _ ds => decide (uptoBulkAll ds ≤ 1048576)
def OpenSpec.upto (s : _root_.Go.ChangeSpec) : _root_.Go.OpenSpec := { _root_.Go.OpenSpec.ofChange s with cond := some uptoSmall }

/-- 'laws.FnExactCanRead', WHERE WHAT IT READS IS OF BULK AT MOST 1048576: true; the input reads as it did. -/
def fnExactCanReadUptoRow : OpenClaim := { program := "ytamcoplnpoddbaa", sum := "5c48acbf893f284549d6a038eb07b1301fefec2e02a9a0472aff45a061a44e0d", func := "loop.example/g00583/laws.FnExactCanRead", spec := "fnExactCanRead", apart := false, narrowed := true }
def FnExactCanReadUptoSaid : Prop := fnExactCanReadUptoRow.holds Try.pinned (OpenSpec.upto fnExactCanReadSpec)

/-- 'laws.FnFilters', WHERE WHAT IT READS IS OF BULK AT MOST 1048576: true; the input reads as it did. -/
def fnFiltersUptoRow : OpenClaim := { program := "ytamcoplnpoddbaa", sum := "5c48acbf893f284549d6a038eb07b1301fefec2e02a9a0472aff45a061a44e0d", func := "loop.example/g00583/laws.FnFilters", spec := "fnFilters", apart := false, narrowed := true }
def FnFiltersUptoSaid : Prop := fnFiltersUptoRow.holds Try.pinned (OpenSpec.upto fnFiltersSpec)

/-- 'laws.FnExactFilterResponse', WHERE WHAT IT READS IS OF BULK AT MOST 1048576: true; the input reads as it did. -/
def fnExactFilterResponseUptoRow : OpenClaim := { program := "ytamcoplnpoddbaa", sum := "5c48acbf893f284549d6a038eb07b1301fefec2e02a9a0472aff45a061a44e0d", func := "loop.example/g00583/laws.FnExactFilterResponse", spec := "fnExactFilterResponse", apart := false, narrowed := true }
def FnExactFilterResponseUptoSaid : Prop := fnExactFilterResponseUptoRow.holds Try.pinned (OpenSpec.upto fnExactFilterResponseSpec)

/-- 'laws.FnExactFindCache', WHERE WHAT IT READS IS OF BULK AT MOST 1048576: true; the input reads as it did. -/
def fnExactFindCacheUptoRow : OpenClaim := { program := "ytamcoplnpoddbaa", sum := "5c48acbf893f284549d6a038eb07b1301fefec2e02a9a0472aff45a061a44e0d", func := "loop.example/g00583/laws.FnExactFindCache", spec := "fnExactFindCache", unfollowed := true, recurses := true, apart := false, narrowed := true }
def FnExactFindCacheUptoSaid : Prop := fnExactFindCacheUptoRow.holds Try.pinned (OpenSpec.upto fnExactFindCacheSpec)

/-- 'laws.FnExactSizeCaches', WHERE WHAT IT READS IS OF BULK AT MOST 1048576: true; the input reads as it did. -/
def fnExactSizeCachesUptoRow : OpenClaim := { program := "ytamcoplnpoddbaa", sum := "5c48acbf893f284549d6a038eb07b1301fefec2e02a9a0472aff45a061a44e0d", func := "loop.example/g00583/laws.FnExactSizeCaches", spec := "fnExactSizeCaches", apart := false, narrowed := true }
def FnExactSizeCachesUptoSaid : Prop := fnExactSizeCachesUptoRow.holds Try.pinned (OpenSpec.upto fnExactSizeCachesSpec)

/-- 'laws.FnExactEqualCacheSets', WHERE WHAT IT READS IS OF BULK AT MOST 1048576: true; the input reads as it did. -/
def fnExactEqualCacheSetsUptoRow : OpenClaim := { program := "ytamcoplnpoddbaa", sum := "5c48acbf893f284549d6a038eb07b1301fefec2e02a9a0472aff45a061a44e0d", func := "loop.example/g00583/laws.FnExactEqualCacheSets", spec := "fnExactEqualCacheSets", unfollowed := true, recurses := true, apart := false, narrowed := true }
def FnExactEqualCacheSetsUptoSaid : Prop := fnExactEqualCacheSetsUptoRow.holds Try.pinned (OpenSpec.upto fnExactEqualCacheSetsSpec)

/-- 'laws.FnExactIsCacheSet', WHERE WHAT IT READS IS OF BULK AT MOST 1048576: true; the input reads as it did. -/
def fnExactIsCacheSetUptoRow : OpenClaim := { program := "ytamcoplnpoddbaa", sum := "5c48acbf893f284549d6a038eb07b1301fefec2e02a9a0472aff45a061a44e0d", func := "loop.example/g00583/laws.FnExactIsCacheSet", spec := "fnExactIsCacheSet", unfollowed := true, recurses := true, apart := false, narrowed := true }
def FnExactIsCacheSetUptoSaid : Prop := fnExactIsCacheSetUptoRow.holds Try.pinned (OpenSpec.upto fnExactIsCacheSetSpec)

/-- 'laws.FnExactMatchCache', WHERE WHAT IT READS IS OF BULK AT MOST 1048576: true; the input reads as it did. -/
def fnExactMatchCacheUptoRow : OpenClaim := { program := "ytamcoplnpoddbaa", sum := "5c48acbf893f284549d6a038eb07b1301fefec2e02a9a0472aff45a061a44e0d", func := "loop.example/g00583/laws.FnExactMatchCache", spec := "fnExactMatchCache", unfollowed := true, recurses := true, apart := false, narrowed := true }
def FnExactMatchCacheUptoSaid : Prop := fnExactMatchCacheUptoRow.holds Try.pinned (OpenSpec.upto fnExactMatchCacheSpec)

/-- 'laws.FnCaches', WHERE WHAT IT READS IS OF BULK AT MOST 1048576: true; the input reads as it did. -/
def fnCachesUptoRow : OpenClaim := { program := "ytamcoplnpoddbaa", sum := "5c48acbf893f284549d6a038eb07b1301fefec2e02a9a0472aff45a061a44e0d", func := "loop.example/g00583/laws.FnCaches", spec := "fnCaches", unfollowed := true, recurses := true, apart := false, narrowed := true }
def FnCachesUptoSaid : Prop := fnCachesUptoRow.holds Try.pinned (OpenSpec.upto fnCachesSpec)

/-- 'laws.FnExactDropCache', WHERE WHAT IT READS IS OF BULK AT MOST 1048576: true; the input reads as it did. -/
def fnExactDropCacheUptoRow : OpenClaim := { program := "ytamcoplnpoddbaa", sum := "5c48acbf893f284549d6a038eb07b1301fefec2e02a9a0472aff45a061a44e0d", func := "loop.example/g00583/laws.FnExactDropCache", spec := "fnExactDropCache", unfollowed := true, recurses := true, apart := false, narrowed := true }
def FnExactDropCacheUptoSaid : Prop := fnExactDropCacheUptoRow.holds Try.pinned (OpenSpec.upto fnExactDropCacheSpec)

/-- 'laws.FnExactStoreResponse', WHERE WHAT IT READS IS OF BULK AT MOST 1048576: true; the input reads as it did. -/
def fnExactStoreResponseUptoRow : OpenClaim := { program := "ytamcoplnpoddbaa", sum := "5c48acbf893f284549d6a038eb07b1301fefec2e02a9a0472aff45a061a44e0d", func := "loop.example/g00583/laws.FnExactStoreResponse", spec := "fnExactStoreResponse", unfollowed := true, recurses := true, apart := false, narrowed := true }
def FnExactStoreResponseUptoSaid : Prop := fnExactStoreResponseUptoRow.holds Try.pinned (OpenSpec.upto fnExactStoreResponseSpec)

/-- 'laws.FnExactOpenCache', WHERE WHAT IT READS IS OF BULK AT MOST 1048576: true; the input reads as it did. -/
def fnExactOpenCacheUptoRow : OpenClaim := { program := "ytamcoplnpoddbaa", sum := "5c48acbf893f284549d6a038eb07b1301fefec2e02a9a0472aff45a061a44e0d", func := "loop.example/g00583/laws.FnExactOpenCache", spec := "fnExactOpenCache", inPlace := ["slices.overlaps[loop.example/g00583/impl.Cache]"], unfollowed := true, recurses := true, apart := false, narrowed := true }
def FnExactOpenCacheUptoSaid : Prop := fnExactOpenCacheUptoRow.holds Try.pinned (OpenSpec.upto fnExactOpenCacheSpec)

end Rows
end Go.Proofs.Ytamcoplnpoddbaa
