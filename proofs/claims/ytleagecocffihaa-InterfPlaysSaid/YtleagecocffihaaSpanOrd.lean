/-
  Plain law: the order of texts, and ranges of them. No program in sight.
-/
import Derived.Laws.Strings
import Derived.Sort.Walk0
import Derived.Lib.MinMaxS
namespace SpanP
abbrev T := ByteArray
def lt (a b : T) : Bool := Go.Op.bytesLess a.toList b.toList
def emp (a : T) : Bool := a.toList.isEmpty
def same (a b : T) : Bool := a.toList == b.toList
def under (k hi : T) : Bool := emp hi || lt k hi
def empty (lo hi : T) : Bool := !under lo hi
def has (lo hi k : T) : Bool := !lt k lo && under k hi
def meets (al ah bl bh : T) : Bool := !empty al ah && !empty bl bh && under al bh && under bl ah
def covers (al ah bl bh : T) : Bool := empty bl bh || (!lt bl al && (emp ah || (!emp bh && (lt bh ah || same bh ah))))
def bothHi (ah bh : T) : T := if emp ah || (!emp bh && lt bh ah) then bh else ah
def refEmpty (lo hi : T) : Bool := !emp hi && (lt hi lo || same hi lo)
def refMeets (al ah bl bh : T) : Bool := !(refEmpty al ah || refEmpty bl bh) && ((emp ah || lt bl ah) && (emp bh || lt al bh))
def refCovers (al ah bl bh : T) : Bool := refEmpty bl bh || (!lt bl al && (emp ah || (!emp bh && (lt bh ah || same bh ah))))
def succ (k : T) : T := k ++ ⟨#[0]⟩
end SpanP
