/- The pure statement of FieldsSigned holds: what is signed does not hang on the Signature's body. -/
import Derived.Test.YtiienmifjebdlaaR5
namespace Go.Proofs.Ytiienmifjebdlaa.Pure

theorem FieldsSigned : Go.Proofs.Ytiienmifjebdlaa.Q.vouchlaw13_FieldsSigned.Pure := Go.Proofs.Ytiienmifjebdlaa.Q.FieldsSigned_pure

end Go.Proofs.Ytiienmifjebdlaa.Pure
