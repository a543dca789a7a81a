/-
Words for the proofs of this seat: those that its texts use; no conditions beyond those written in each.
-/
import Derived.Test.YtfjmpdcflnaogaaGreatDoorWWords
import Derived.Test.YtfjmpdcflnaogaaGreatDoorWLast
