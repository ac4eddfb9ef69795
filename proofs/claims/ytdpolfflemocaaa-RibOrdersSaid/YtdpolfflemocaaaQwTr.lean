/- The declarations of Tr that the claim Qw needs. -/

namespace Go.Proofs.Ytdpolfflemocaaa.Tr
def E (es : List (Nat × Nat)) (S : Nat → Bool) : Nat := es.countP fun e => S e.1 && S e.2
def N (m : Nat) (S : Nat → Bool) : Nat := (List.range m).countP S
end Go.Proofs.Ytdpolfflemocaaa.Tr
