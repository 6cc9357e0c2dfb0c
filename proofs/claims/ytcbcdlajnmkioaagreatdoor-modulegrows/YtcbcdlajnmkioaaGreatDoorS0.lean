/- A part of the proof of the statement ModuleGrows of isagogelaw19: what the library answers. -/
import Derived.Test.YtcbcdlajnmkioaaGreatDoorE5
namespace Go.Proofs.YtcbcdlajnmkioaaGreatDoor
open Go
/-! Plain functions: what the layers compute. -/
def letterB (c : Int) : Bool := (decide (97 ≤ c) && decide (c ≤ 122)) || (decide (65 ≤ c) && decide (c ≤ 90))
def digitB (c : Int) : Bool := decide (48 ≤ c) && decide (c ≤ 57)
def withinB (c : Int) : Bool := letterB c || digitB c || decide (c = 95)
def okB (i : Nat) (c : Int) : Bool := letterB c || (decide (0 < i) && (digitB c || decide (c = 95)))
def reserved : List ByteArray := [⟨#[116, 111, 112]⟩, ⟨#[98, 111, 116]⟩, ⟨#[110, 111, 116]⟩, ⟨#[97, 110, 100]⟩, ⟨#[111, 114]⟩, ⟨#[115, 111, 109, 101]⟩, ⟨#[97, 108, 108]⟩, ⟨#[99, 111, 110, 99, 101, 112, 116]⟩, ⟨#[114, 111, 108, 101]⟩, ⟨#[105, 110, 100]⟩]
def resB (s : ByteArray) : Bool := reserved.any fun t => decide (s = t)
def findI (l : List ByteArray) (s : ByteArray) : Int := match l.findIdx? (fun x => decide (s = x)) with | some i => i | none => -1
def wordB (s : ByteArray) : Bool := decide (¬ s = ⟨#[]⟩ ∧ ∀ i, i < s.size → okB i (bt s i) = true)
def nameB (s : ByteArray) : Bool := decide (s.size ≤ 12) && wordB s && !resB s
end Go.Proofs.YtcbcdlajnmkioaaGreatDoor
