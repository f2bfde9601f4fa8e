/- The pure statement of FieldsNames holds: of every name and every kind Kind and Name answer what the reference answers. -/
import Derived.Test.YtiienmifjebdlaaR2
namespace Go.Proofs.Ytiienmifjebdlaa.Pure

theorem FieldsNames : Go.Proofs.Ytiienmifjebdlaa.Q.vouchlaw13_FieldsNames.Pure := Go.Proofs.Ytiienmifjebdlaa.Q.FieldsNames_pure

end Go.Proofs.Ytiienmifjebdlaa.Pure
