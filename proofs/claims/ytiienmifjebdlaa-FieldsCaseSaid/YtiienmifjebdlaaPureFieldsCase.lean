/- The pure statement of FieldsCase holds: letters of names in the other case change nothing. -/
import Derived.Test.YtiienmifjebdlaaR7
namespace Go.Proofs.Ytiienmifjebdlaa.Pure

theorem FieldsCase : Go.Proofs.Ytiienmifjebdlaa.Q.vouchlaw13_FieldsCase.Pure := Go.Proofs.Ytiienmifjebdlaa.Q.FieldsCase_pure

end Go.Proofs.Ytiienmifjebdlaa.Pure
