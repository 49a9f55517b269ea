/- The card of FnOpened: the row, its tables tied to the text. -/
import Derived.Test.YtgpjnkahgofpmaaDoorCRFnOpened
import Derived.Test.YtgpjnkahgofpmaaDoorCards
import Derived.Test.YtgpjnkahgofpmaaDoorTie
import Derived.SevenTiedAt
namespace Go.Proofs.YtgpjnkahgofpmaaDoor
theorem fnOpened_card:Rows.FnOpenedCardSaid:=
 Claim7.holds_tied_plain_at .later [] [.data,.data,.data] true (true, "65a53b946acbb36aef2fde7dd41ec2fbab730a397bd673daa0cd4d4ab7460383") false
  WX (fun _ h=>by cases h) (by kernel_rfl) (fun _ h=>by cases h) fnOpened_row_tie rfl ⟨rfl,rfl⟩ (by kernel_rfl) rfl
  (fun f fn hf hfn=>by
    obtain rfl:f=3:=Option.some.inj ((show Tryd.prog.funcNamed "loop.example/g00261/laws.FnOpened" =some 3 by kernel_rfl).symm.trans hf)|>.symm
    obtain rfl:fn=Tryd.f3:=(Option.some.inj (Tryd.func3.symm.trans hfn)).symm
    exact⟨by kernel_rfl,fun j t ht=>by
     rw[Tryd.params3]at ht
     rcases j with _|j
     ·have h3:t=22:=by simpa using ht.symm
      subst h3
      exact(show Tryd.prog.wantsStandIn 22=false by kernel_rfl)
     rcases j with _|j
     ·have h3:t=22:=by simpa using ht.symm
      subst h3
      exact(show Tryd.prog.wantsStandIn 22=false by kernel_rfl)
     simp at ht⟩)
  (by kernel_rfl)
#print axioms fnOpened_card
end Go.Proofs.YtgpjnkahgofpmaaDoor
