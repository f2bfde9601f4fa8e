/- The pure statement of FieldsMore holds: a Comment put behind all fields changes no other one. -/
import Derived.Test.YtiienmifjebdlaaR6
namespace Go.Proofs.Ytiienmifjebdlaa.Pure

theorem FieldsMore : Go.Proofs.Ytiienmifjebdlaa.Q.vouchlaw13_FieldsMore.Pure := Go.Proofs.Ytiienmifjebdlaa.Q.FieldsMore_pure

end Go.Proofs.Ytiienmifjebdlaa.Pure
