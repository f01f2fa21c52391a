import Derived.Test.YtgpdodhegacndaaProg
import Derived.Test.YtgpdodhegacndaaLib
import Derived.Test.YtgpdodhegacndaaCkMath
import Derived.Test.YtgpdodhegacndaaSl
import Derived.Deep.QuietTactic
import Derived.BigQuiet
namespace Go.Proofs.Ytgpdodhegacndaa
set_option linter.unusedSimpArgs false
set_option linter.unusedVariables false
open Go.RowKit
end Go.Proofs.Ytgpdodhegacndaa
