/- Decryption of package cipher. -/
import Derived.Test.YtoegpalacppllaaFacts
import Derived.Test.YtoegpalacppllaaVals
import Derived.Test.YtoegpalacppllaaC7
namespace Go.Proofs.Ytoegpalacppllaa
open Go.RowKit Pl

end Go.Proofs.Ytoegpalacppllaa
