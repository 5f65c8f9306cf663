import Derived.Test.YtpncbbcmoiiipaaMLawKit
set_option linter.unusedVariables false
set_option linter.unusedSimpArgs false
namespace Go.Proofs.Ytpncbbcmoiiipaa
open Go Go.RowKit
theorem MD {w w':World} {Rs:List Res} (hs:St ⟨w,[]⟩ Rs w') {k B T n:Nat} {x:Option Addr×Nat} {xs:List (Int×Int)} (hk:Rs[k]? =some (qx B T 2 n (xs.flatMap jI) x)) (hn:xs.length=n) :OwnP w.heap.size w'.heap.size w' x.1 n xs:=by
 have hr:=hs.all k _ hk
 have h:=Zn (x:=x) hr.1 hn
 refine⟨h.1,fun h0=> ?_⟩
 obtain ⟨b,o,T',cs,e,_,_,hh,hc⟩ :=h.2 h0
 refine⟨b,o,T',cs,e,?_,JE hh,hh,hc⟩
 exact(hr.2.1 b (by show Value.ownBlock (.slice x.1 n x.2) =some b;rw [e];rfl)).elim id (fun h=>by cases h)
theorem ME {P:Program} {f:FuncId} {args:Array Value} {w1:World} {xs:List (Int×Int)} {code:Int} (h:Calls P f args w1 fun e w'=>∃A' c',e= .returned (.tuple #[.slice A' xs.length c', .int .i64 code])∧OwnP w1.heap.size w'.heap.size w' A' xs.length xs∧Over w1 w') :
  Calls P f args w1 fun e w'=>∃x: (Option Addr×Nat)×Nat×Nat,e= .returned (.tuple #[.slice x.1.1 xs.length x.1.2, .int .i64 code])∧Over w1 w'∧(uY xs.length xs x.2.1 x.2.2 x.1.1).P w'∧(∀b,(uY xs.length xs x.2.1 x.2.2 x.1.1).F b→w1.heap.size≤b)∧(uY xs.length xs x.2.1 x.2.2 x.1.1).B=0∧True:=
 OH (V:=fun A c=> .tuple #[.slice A xs.length c, .int .i64 code]) h
end Go.Proofs.Ytpncbbcmoiiipaa
