/- The pure statement of FieldsTile holds: the fields of every text lie side by side. -/
import Derived.Test.YtiienmifjebdlaaR3
namespace Go.Proofs.Ytiienmifjebdlaa.Pure

theorem FieldsTile : Go.Proofs.Ytiienmifjebdlaa.Q.vouchlaw13_FieldsTile.Pure := Go.Proofs.Ytiienmifjebdlaa.Q.FieldsTile_pure

end Go.Proofs.Ytiienmifjebdlaa.Pure
