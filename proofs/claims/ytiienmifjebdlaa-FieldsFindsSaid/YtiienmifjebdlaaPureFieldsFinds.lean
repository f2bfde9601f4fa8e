/- The pure statement of FieldsFinds holds: of every text and kind Find and Signed answer what the reference answers. -/
import Derived.Test.YtiienmifjebdlaaR4
namespace Go.Proofs.Ytiienmifjebdlaa.Pure

theorem FieldsFinds : Go.Proofs.Ytiienmifjebdlaa.Q.vouchlaw13_FieldsFinds.Pure := Go.Proofs.Ytiienmifjebdlaa.Q.FieldsFinds_pure

end Go.Proofs.Ytiienmifjebdlaa.Pure
